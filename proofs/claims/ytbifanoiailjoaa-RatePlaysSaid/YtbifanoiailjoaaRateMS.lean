import Derived.Test.YtbifanoiailjoaaRateCmp
import Derived.Test.YtbifanoiailjoaaRowBase
import Derived.Test.YtbifanoiailjoaaRateMid
import Derived.WalkSpells
import Derived.Lib.Overlaps
import Derived.Lib.AppendZerosOnto
import Derived.Test.YtbifanoiailjoaaRegInv
import Derived.Test.YtbifanoiailjoaaRateFits
/- A table's entries (keys of one type): compared with a key; looked for. -/
namespace Go.Proofs.Ytbifanoiailjoaa.MRatePlays
open Go.RowKit Go.Proofs.YtbifanoiailjoaaW.PrintWords Go.Proofs.YtbifanoiailjoaaW.PrintLast Go.Proofs.YtbifanoiailjoaaW.PrintMore Go.Proofs.Ytbifanoiailjoaa.Base
set_option linter.unusedVariables false
set_option linter.unusedSimpArgs false

def lts (a b : ByteArray) : Bool := Op.bytesLess a.toList b.toList
def cps (a b : ByteArray) : Int := if lts a b = true then -1 else if lts b a = true then 1 else 0
theorem cmps_k (w : World) (a b : ByteArray) : Calls Try.prog 63 #[.string a, .string b] w fun e w' => e = .returned (.int .i64 (cps a b)) ∧ Drawn0 w w' := cmps_c w a b
set_option maxHeartbeats 4000000 in
set_option maxRecDepth 100000 in
theorem cbs_c (w : World) (x : S60) (key : ByteArray) : Calls Try.prog 62 #[.agg #[.string x.f0, .int .i64 x.f1, .bool x.f2], .string key] w fun e w' => e = .returned (.int .i64 (cps x.f0 key)) ∧ Below w.heap.size w w' := by
  go_enter Try.func62, Try.ntmps62
  go_wp2_with (first | (go_at_call 63; refine (cmps_k _ x.f0 key).mono ?_; rintro e_ w1 ⟨rfl, n_, rfl⟩) | fail)
  go_ret
  exact ⟨rfl, pw_below_drewN (below_alloc (Below.refl _ _) _) n_⟩
def lows (es : List S60) (key : ByteArray) : Nat := (es.takeWhile (fun x => lts x.f0 key)).length
def hass (es : List S60) (key : ByteArray) : Bool := (es.drop (lows es key)).head?.any (fun x => cps x.f0 key == 0)
def encs (x : S60) : List Value := [.string x.f0, .int .i64 x.f1, .bool x.f2]
def encss (es : List S60) : List Value := es.flatMap encs
theorem encss_len (es : List S60) : (encss es).length = 3 * es.length := by
  induction es with
  | nil => rfl
  | cons x r ih =>
    show (encs x ++ encss r).length = _
    rw [List.length_append, ih]
    simp only [encs, List.length_cons, List.length_nil]
    omega
theorem encss_at (rest : List Value) : ∀ (es : List S60) (m : Nat), m < es.length → ((encss es ++ rest).drop (m * 3)).take 3 = encs (rd_T60 es m)
  | [], m, h => by simp at h
  | x :: r, 0, h => by
    show ((encs x ++ encss r ++ rest).drop (0 * 3)).take 3 = encs x
    rfl
  | x :: r, m + 1, h => by
    have ih := encss_at rest r m (by simpa using h)
    have e : rd_T60 (x :: r) ((m + 1 : Nat) : Int) = rd_T60 r m := by unfold rd_T60; simp only [Int.toNat_natCast]; rfl
    rw [e, ← ih]
    show ((encs x ++ encss r ++ rest).drop ((m + 1) * 3)).take 3 = _
    have e2 : (m + 1) * 3 = (m * 3) + 3 := by omega
    rw [e2]
    rfl
/-- A row of entries with its spare cells. -/
def Rows (W : World) (b : Nat) (es : List S60) (rest : List Value) : Prop := W.heap[b]? = some (.cells (encss es ++ rest).toArray 60 (0, 0))
def Srts (es : List S60) : Prop := ∀ a b : Nat, a ≤ b → b < es.length → ∀ key, cps (rd_T60 es b).f0 key < 0 → cps (rd_T60 es a).f0 key < 0
set_option maxHeartbeats 4000000 in
set_option maxRecDepth 100000 in
theorem bsfs_c (w : World) (b c : Nat) (es : List S60) (rest : List Value) (key : ByteArray) (hC : Rows w b es rest) (hc : es.length ≤ c) (hn : es.length ≤ 1000000) :
    Calls Try.prog 61 #[.slice (some ⟨b, 0, none⟩) es.length c, .string key, .func (.func 62) #[] #[]] w fun e w' => (∃ lo : Nat, lo ≤ es.length ∧ e = .returned (.tuple #[.int .i64 lo, .bool (decide (lo < es.length) && decide (cps (rd_T60 es lo).f0 key = 0))]) ∧ (Srts es → (∀ t : Nat, t < lo → cps (rd_T60 es t).f0 key < 0) ∧ (∀ t : Nat, lo ≤ t → t < es.length → 0 ≤ cps (rd_T60 es t).f0 key))) ∧ Below w.heap.size w w' := by
  have HC := Aside0.mk hC
  have HCC := Aside0.mk hc
  clear hC hc
  go_enter Try.func61, Try.ntmps61
  go_wp2
  go_loopg [9, 10] es.length (fun kx s9 s10 wr => ∃ lo hi : Nat, s9 = .int .i64 lo ∧ s10 = .int .i64 hi ∧ lo ≤ hi ∧ hi ≤ es.length ∧ hi - lo ≤ kx ∧ Aside0 (Below w.heap.size w wr) ∧
    Aside0 (Srts es → (∀ t : Nat, t < lo → cps (rd_T60 es t).f0 key < 0) ∧ (∀ t : Nat, hi ≤ t → t < es.length → 0 ≤ cps (rd_T60 es t).f0 key)))
  case atStart => exact ⟨0, es.length, rfl, rfl, Nat.zero_le _, Nat.le_refl _, by omega, ⟨Below.refl _ _⟩, ⟨fun _ => ⟨fun t ht => absurd ht (Nat.not_lt_zero _), fun t h1 h2 => by omega⟩⟩⟩
  case round =>
    obtain ⟨lo, hi, rfl, rfl, hlh, hin, hg, B1, I⟩ := hrel
    by_cases hlt : lo < hi
    · obtain ⟨m, hm⟩ : ∃ m : Nat, (lo + hi) / 2 = m := ⟨_, rfl⟩
      have hmi : ((lo : Int) + (hi : Int)) / 2 = (m : Int) := by omega
      have hml : lo ≤ m ∧ m < hi := by omega
      have HR := Aside0.mk (show wr.heap[b]? = some (.cells (encss es ++ rest).toArray 60 (0, 0)) from blk_below HC.out B1.out)
      have HM := Aside0.mk hm
      clear hm
      have hlt1 : (m : Int) < (es.length : Int) := by omega
      have hpart : (((encss es ++ rest).toArray).toList.drop (m * 3)).take (#[.string (rd_T60 es m).f0, .int .i64 (rd_T60 es m).f1, .bool (rd_T60 es m).f2] : Array Value).size = (#[.string (rd_T60 es m).f0, .int .i64 (rd_T60 es m).f1, .bool (rd_T60 es m).f2] : Array Value).toList := encss_at rest es m (by omega)
      have HPT := Aside0.mk hpart
      have HML := Aside0.mk hml
      clear hpart hml
      go_upto_region 5 with (fail)
      clear hmi
      have HCB := Aside0.mk (fun W => cbs_c W (rd_T60 es m) key)
      obtain ⟨x, hx⟩ : ∃ x, rd_T60 es m = x := ⟨_, rfl⟩
      have HX := Aside0.mk hx
      rw [hx] at HCB HPT
      clear hx
      by_cases hc : cps x.f0 key < 0
      · have hcd : decide (cps x.f0 key < 0) = true := decide_eq_true hc
        have hwm : wrap64 ((m : Int) + 1) = ((m + 1 : Nat) : Int) := by rw [wrap64_id (by unfold I64; omega)]; rfl
        have HH := Aside0.mk hc
        go_wp2_with (first | ((with_reducible refine gate_dst (N := 28) rfl ?_); refine load_part rfl 60 _ rfl b (m * 3) ?hx #[.string x.f0, .int .i64 x.f1, .bool x.f2] 60 (encss es ++ rest).toArray HR.out HPT.out _ Try.underlying60 rfl (by kernel_rfl) ?_; (case hx => go_simp)) | (go_at_call 62; refine (HCB.out _).mono ?_; rintro e_ w1 ⟨rfl, hb_⟩; have B1 := Aside0.mk (below_step B1.out hb_); clear hb_) | fail)
        clear hc
        go_roundg (hi - (m + 1))
        case measure => have q := HML.out; omega
        case rel => exact ⟨m + 1, hi, by first | rfl | go_num, rfl, by have q := HML.out; omega, hin, Nat.le_refl _, B1, ⟨fun hs => ⟨fun t ht => hs t m (by omega) (by have q := HML.out; omega) key (by rw [HX.out]; exact HH.out), (I.out hs).2⟩⟩⟩
      · have hcd : decide (cps x.f0 key < 0) = false := decide_eq_false hc
        have HH := Aside0.mk (Int.not_lt.1 hc)
        clear hc
        go_wp2_with (first | ((with_reducible refine gate_dst (N := 28) rfl ?_); refine load_part rfl 60 _ rfl b (m * 3) ?hx #[.string x.f0, .int .i64 x.f1, .bool x.f2] 60 (encss es ++ rest).toArray HR.out HPT.out _ Try.underlying60 rfl (by kernel_rfl) ?_; (case hx => go_simp)) | (go_at_call 62; refine (HCB.out _).mono ?_; rintro e_ w1 ⟨rfl, hb_⟩; have B1 := Aside0.mk (below_step B1.out hb_); clear hb_) | fail)
        go_roundg (m - lo)
        case measure => have q := HML.out; omega
        case rel => exact ⟨lo, m, rfl, by first | rfl | go_num, by have q := HML.out; omega, by have q := HML.out; omega, Nat.le_refl _, B1, ⟨fun hs => ⟨(I.out hs).1, fun t h1 h2 => Int.not_lt.1 fun q => by have q2 := hs m t h1 h2 key q; rw [HX.out] at q2; have q3 := HH.out; omega⟩⟩⟩
    · obtain rfl : hi = lo := by omega
      have HI := Aside0.mk I.out
      by_cases hlen : hi < es.length
      · have HR := Aside0.mk (show wr.heap[b]? = some (.cells (encss es ++ rest).toArray 60 (0, 0)) from blk_below HC.out B1.out)
        have hlt1 : (hi : Int) < (es.length : Int) := by omega
        have hld : decide (hi < es.length) = true := decide_eq_true hlen
        have HPT := Aside0.mk (show (((encss es ++ rest).toArray).toList.drop (hi * 3)).take (#[.string (rd_T60 es hi).f0, .int .i64 (rd_T60 es hi).f1, .bool (rd_T60 es hi).f2] : Array Value).size = (#[.string (rd_T60 es hi).f0, .int .i64 (rd_T60 es hi).f1, .bool (rd_T60 es hi).f2] : Array Value).toList from encss_at rest es hi hlen)
        have HCB := Aside0.mk (fun W => cbs_c W (rd_T60 es hi) key)
        obtain ⟨x, hx⟩ : ∃ x, rd_T60 es hi = x := ⟨_, rfl⟩
        have HX := Aside0.mk hx
        rw [hx] at HCB HPT
        clear hx
        go_wp2_with (first | ((with_reducible refine gate_dst (N := 44) rfl ?_); (try (refine gate_guard (by rfl) ?_; dsimp only)); refine load_part rfl 60 _ rfl b (hi * 3) ?hx #[.string x.f0, .int .i64 x.f1, .bool x.f2] 60 (encss es ++ rest).toArray HR.out HPT.out _ Try.underlying60 rfl (by kernel_rfl) ?_; (case hx => go_simp)) | (go_at_call 62; refine (HCB.out _).mono ?_; rintro e_ w1 ⟨rfl, hb_⟩; have B1 := Aside0.mk (below_step B1.out hb_); clear hb_) | fail)
        go_ret2
        exact ⟨⟨hi, hin, by rw [HX.out, hld, Bool.true_and]; exact congrArg (fun b_ => Ending.returned (Value.tuple #[.int .i64 hi, .bool b_])) (by first | rfl | (rw [Bool.eq_iff_iff]; simp)), HI.out⟩, B1.out⟩
      · have hld : decide (hi < es.length) = false := decide_eq_false hlen
        go_wp2
        go_ret2
        exact ⟨⟨hi, hin, by rw [hld]; simp, HI.out⟩, B1.out⟩
end Go.Proofs.Ytbifanoiailjoaa.MRatePlays

/- The order of a table's entries. -/
namespace Go.Proofs.Ytbifanoiailjoaa.MRatePlays
open Go.RowKit Go.Proofs.YtbifanoiailjoaaW.PrintWords Go.Proofs.YtbifanoiailjoaaW.PrintLast Go.Proofs.YtbifanoiailjoaaW.PrintMore Go.Proofs.Ytbifanoiailjoaa.Base
set_option linter.unusedVariables false
set_option linter.unusedSimpArgs false

theorem lts_irr (a : ByteArray) : lts a a = false := by
  have := bless_tri a.toList a.toList
  simp only [lts]
  cases h : Op.bytesLess a.toList a.toList with
  | false => rfl
  | true => rw [h] at this; simp at this
theorem bless_trans : ∀ x y z : List UInt8, Op.bytesLess x y = true → Op.bytesLess y z = true → Op.bytesLess x z = true
  | [], [], _, h, _ => by cases h
  | _ :: _, [], _, h, _ => by cases h
  | x, _ :: _, [], _, h => by cases h
  | [], _ :: _, _ :: _, _, _ => rfl
  | a :: x, b :: y, c :: z, h1, h2 => by
    simp only [Op.bytesLess, Bool.or_eq_true, Bool.and_eq_true, decide_eq_true_eq, beq_iff_eq] at h1 h2 ⊢
    rcases h1 with h1 | ⟨rfl, h1⟩
    · rcases h2 with h2 | ⟨rfl, h2⟩
      · refine .inl ?_
        rw [UInt8.lt_iff_toNat_lt] at *; omega
      · exact .inl h1
    · rcases h2 with h2 | ⟨rfl, h2⟩
      · exact .inl h2
      · exact .inr ⟨rfl, bless_trans x y z h1 h2⟩
theorem lts_trans (a b c : ByteArray) (h1 : lts a b = true) (h2 : lts b c = true) : lts a c = true := bless_trans _ _ _ h1 h2
theorem lts_tri (a b : ByteArray) (h1 : lts a b = false) (h2 : lts b a = false) : a = b := by
  have := bless_tri a.toList b.toList
  simp only [lts] at h1 h2
  rw [h1, h2] at this
  have e : a.toList = b.toList := by simpa using this
  rw [ByteArray.toList_eq, ByteArray.toList_eq] at e
  exact ByteArray.ext (by simpa using congrArg List.toArray e)
theorem cps_neg (a b : ByteArray) : cps a b < 0 ↔ lts a b = true := by
  unfold cps
  cases lts a b <;> cases lts b a <;> simp
theorem lts_asym (a b : ByteArray) (h : lts a b = true) : lts b a = false := by
  cases q : lts b a with
  | false => rfl
  | true => have := lts_trans a b a h q; rw [lts_irr] at this; cases this
theorem cps_zero (a b : ByteArray) : cps a b = 0 ↔ a = b := by
  unfold cps
  constructor
  · intro h
    cases h1 : lts a b with
    | true => rw [h1] at h; simp at h
    | false =>
      cases h2 : lts b a with
      | true => rw [h1, h2] at h; simp at h
      | false => exact lts_tri a b h1 h2
  · rintro rfl
    rw [lts_irr]
    rfl
/-- The entries rise by their keys. -/
def Rises (es : List S60) : Prop := es.Pairwise (fun x y => lts x.f0 y.f0 = true)
theorem rds_get (es : List S60) (m : Nat) (h : m < es.length) : rd_T60 es m = es[m] := by unfold rd_T60; simp [List.getElem?_eq_getElem h]
theorem srts (es : List S60) (h : Rises es) : Srts es := by
  intro a b hab hb key hk
  rw [rds_get es b hb, cps_neg] at hk
  rw [rds_get es a (by omega), cps_neg]
  rcases Nat.lt_or_ge a b with q | q
  · exact lts_trans _ _ _ (List.pairwise_iff_getElem.1 h a b (by omega) hb q) hk
  · have e : a = b := by omega
    subst e
    exact hk
theorem lows_is (key : ByteArray) : ∀ (es : List S60) (lo : Nat), lo ≤ es.length → (∀ t : Nat, t < lo → cps (rd_T60 es t).f0 key < 0) → (∀ t : Nat, lo ≤ t → t < es.length → 0 ≤ cps (rd_T60 es t).f0 key) → lows es key = lo
  | [], lo, h, _, _ => by simp at h; subst h; rfl
  | x :: r, 0, _, _, h => by
    have := h 0 (Nat.le_refl _) (by simp)
    have e : rd_T60 (x :: r) ((0 : Nat) : Int) = x := rfl
    rw [e] at this
    have q : ¬ lts x.f0 key = true := fun q => by rw [← cps_neg] at q; omega
    simp [lows, List.takeWhile_cons, q]
  | x :: r, lo + 1, hl, h1, h2 => by
    have ex : ∀ t : Nat, rd_T60 (x :: r) ((t + 1 : Nat) : Int) = rd_T60 r t := fun t => by unfold rd_T60; simp only [Int.toNat_natCast]; rfl
    have q := h1 0 (by omega)
    have e : rd_T60 (x :: r) ((0 : Nat) : Int) = x := rfl
    rw [e, cps_neg] at q
    have ih := lows_is key r lo (by simpa using hl) (fun t ht => by rw [← ex]; exact h1 (t + 1) (by omega)) (fun t ht hl => by rw [← ex]; exact h2 (t + 1) (by omega) (by simpa using hl))
    have : lows (x :: r) key = lows r key + 1 := by simp [lows, List.takeWhile_cons, q]
    omega
theorem lows_le (es : List S60) (key : ByteArray) : lows es key ≤ es.length := (List.takeWhile_prefix _).length_le
theorem hass_eq (es : List S60) (key : ByteArray) (lo : Nat) (h : lows es key = lo) : hass es key = (decide (lo < es.length) && decide (cps (rd_T60 es lo).f0 key = 0)) := by
  unfold hass
  rw [h]
  by_cases q : lo < es.length
  · rw [rds_get es lo q, List.drop_eq_getElem_cons q, Bool.eq_iff_iff]
    simp [q]
  · have e : es.drop lo = [] := List.drop_eq_nil_of_le (by omega)
    rw [e]
    simp [q]
/-- A slice of entries: nothing, or a row of its own. -/
def Sls (W : World) (g b : Nat) (sl : Value) (es : List S60) : Prop :=
  (sl = .slice none 0 0 ∧ es = [] ∧ b = g) ∨ (b ≠ g ∧ ∃ (c : Nat) (rest : List Value), sl = .slice (some ⟨b, 0, none⟩) es.length c ∧ Rows W b es rest ∧ (encss es ++ rest).length = c * 3 ∧ c ≤ 9223372036854775807)
/-- A table at g, its row at b (g: it has none). -/
def Tabs (W : World) (g b : Nat) (es : List S60) (room span : Int) : Prop :=
  ∃ sl : Value, W.heap[g]? = some (.cells #[sl, .int .i64 room, .int .i64 span] 88 (0, 0)) ∧ Sls W g b sl es
theorem Sls.below {W W' : World} {g b : Nat} {sl : Value} {es : List S60} (h : Sls W g b sl es) (hb : Below W.heap.size W W') : Sls W' g b sl es := by
  rcases h with h | ⟨hn, c, rest, e, hr, hl, hc⟩
  · exact .inl h
  · exact .inr ⟨hn, c, rest, e, blk_below hr hb, hl, hc⟩
theorem Tabs.below {W W' : World} {g b : Nat} {es : List S60} {room span : Int} (h : Tabs W g b es room span) (hb : Below W.heap.size W W') : Tabs W' g b es room span := by
  obtain ⟨sl, hg, hs⟩ := h
  exact ⟨sl, blk_below hg hb, hs.below hb⟩
set_option maxHeartbeats 4000000 in
set_option maxRecDepth 100000 in
theorem bsfns_c (w : World) (key : ByteArray) :
    Calls Try.prog 61 #[.slice none 0 0, .string key, .func (.func 62) #[] #[]] w fun e w' => e = .returned (.tuple #[.int .i64 0, .bool false]) ∧ Below w.heap.size w w' := by
  go_enter Try.func61, Try.ntmps61
  go_wp2
  go_loopg [9, 10] 0 (fun kx s9 s10 wr => s9 = .int .i64 0 ∧ s10 = .int .i64 0 ∧ Aside0 (Below w.heap.size w wr))
  case atStart => exact ⟨rfl, rfl, ⟨Below.refl _ _⟩⟩
  case round =>
    obtain ⟨rfl, rfl, B1⟩ := hrel
    go_wp2
    go_ret2
    exact ⟨rfl, B1.out⟩
set_option maxHeartbeats 4000000 in
set_option maxRecDepth 100000 in
theorem places_c (w : World) (g b : Nat) (es : List S60) (room span : Int) (key : ByteArray) (H : Tabs w g b es room span) (hS : Rises es) (hn : es.length ≤ 1000000) :
    Calls Try.prog 43 #[.pointer (some ⟨g, 0, none⟩), .string key] w fun e w' => e = .returned (.tuple #[.int .i64 (lows es key), .bool (hass es key)]) ∧ Below w.heap.size w w' := by
  obtain ⟨sl, hg, hs⟩ := H
  have hcell : w.cell? ⟨g, 0, none⟩ = some sl := (blk_cell hg 0).trans rfl
  rcases hs with ⟨rfl, rfl, rfl⟩ | ⟨hne, c, rest, rfl, hr, hl, hc⟩
  · go_enter Try.func43, Try.ntmps43
    go_wp2_with (first | (go_at_call 61; refine (bsfns_c _ key).mono ?_; rintro e_ w1 ⟨rfl, hb_⟩; have B1 := Aside0.mk hb_; clear hb_) | fail)
    go_ret2
    exact ⟨rfl, B1.out⟩
  · have hcl : es.length ≤ c := by
      rw [List.length_append, encss_len] at hl
      omega
    go_enter Try.func43, Try.ntmps43
    go_wp2_with (first | (go_at_call 61; refine (bsfs_c _ b c es rest key hr hcl hn).mono ?_; rintro e_ w1 ⟨⟨lo, hlo, rfl, hB⟩, hb_⟩; have B1 := Aside0.mk hb_; clear hb_) | fail)
    go_ret2
    obtain ⟨hB1, hB2⟩ := hB (srts es hS)
    have hlow := lows_is key es lo hlo hB1 hB2
    exact ⟨by rw [hass_eq es key lo hlow, hlow]; exact rfl, B1.out⟩
end Go.Proofs.Ytbifanoiailjoaa.MRatePlays

/- What a key is answered. -/
namespace Go.Proofs.Ytbifanoiailjoaa.MRatePlays
open Go.RowKit Go.Proofs.YtbifanoiailjoaaW.PrintWords Go.Proofs.YtbifanoiailjoaaW.PrintLast Go.Proofs.YtbifanoiailjoaaW.PrintMore Go.Proofs.Ytbifanoiailjoaa.Base
set_option linter.unusedVariables false
set_option linter.unusedSimpArgs false

set_option maxHeartbeats 4000000 in
set_option maxRecDepth 100000 in
theorem askss_ok (w : World) (g : Nat) (moment : Int) (h0 : 0 ≤ moment) (h1 : moment ≤ 4611686018427387904) :
    Calls Try.prog 40 #[.pointer (some ⟨g, 0, none⟩), .int .i64 moment] w fun e w' => e = .returned Value.nilIface ∧ Below w.heap.size w w' := by
  have c1 : decide (moment < 0) = false := decide_eq_false (by omega)
  have c2 : decide (4611686018427387904 < moment) = false := decide_eq_false (by omega)
  have H0 := Aside0.mk h0
  have H1 := Aside0.mk h1
  clear h0 h1
  go_enter Try.func40, Try.ntmps40
  go_wp2
  go_ret
  exact ⟨rfl, Below.refl _ _⟩
def anss (es : List S60) (key : ByteArray) (moment span : Int) : Int :=
  if hass es key = true then (if span ≤ moment - (rd_T60 es (lows es key)).f1 then 1 else if (rd_T60 es (lows es key)).f2 = true then 3 else 2) else 1
def Atss (es : List S60) : Prop := ∀ x ∈ es, 0 ≤ x.f1 ∧ x.f1 ≤ 4611686018427387904
theorem hass_lt (es : List S60) (key : ByteArray) (h : hass es key = true) : lows es key < es.length := by
  rw [hass_eq es key _ rfl] at h
  simp only [Bool.and_eq_true, decide_eq_true_eq] at h
  exact h.1
theorem rows_cell {W : World} {b : Nat} {es : List S60} {rest : List Value} (h : Rows W b es rest) (m j : Nat) (hm : m < es.length) (v : Value) (hv : (encs (rd_T60 es m))[j]? = some v) (hj : j < 3) : W.cell? ⟨b, m * 3 + j, none⟩ = some v := by
  rw [blk_cell h (m * 3 + j), ← hv, ← encss_at rest es m hm, List.getElem?_take, if_pos hj, List.getElem?_drop]
  simp
set_option maxHeartbeats 4000000 in
set_option maxRecDepth 100000 in
theorem answers_c (w : World) (g b : Nat) (es : List S60) (room span : Int) (key : ByteArray) (moment : Int) (H : Tabs w g b es room span) (hS : Rises es) (hn : es.length ≤ 1000000) (hA : Atss es) (h0 : 0 ≤ moment) (h1 : moment ≤ 4611686018427387904) :
    Calls Try.prog 41 #[.pointer (some ⟨g, 0, none⟩), .string key, .int .i64 moment] w fun e w' => e = .returned (.int .i64 (anss es key moment span)) ∧ Below w.heap.size w w' := by
  have HP := Aside0.mk (places_c w g b es room span key H hS hn)
  cases hh : hass es key with
  | false =>
    rw [hh] at HP
    have ha : anss es key moment span = 1 := by unfold anss; rw [hh]; rfl
    rw [ha]
    clear h0 h1 H hS hA hn ha
    go_enter Try.func41, Try.ntmps41
    go_wp2_with (first | (go_at_call 43; refine (HP.out).mono ?_; rintro e_ w1 ⟨rfl, hb_⟩; have B1 := Aside0.mk hb_; clear hb_) | fail)
    go_quiet (fail)
    go_wp2
    go_ret
    exact ⟨rfl, pw_below_drewN B1.out _⟩
  | true =>
    have hlt := hass_lt es key hh
    rw [hh] at HP
    obtain ⟨sl, hg, hs⟩ := H
    rcases hs with ⟨rfl, rfl, rfl⟩ | ⟨hne, c, rest, rfl, hr, hl, hc⟩
    · simp at hlt
    have hat := hA (rd_T60 es (lows es key)) (by rw [rds_get es _ hlt]; exact List.getElem_mem _)
    have ha : anss es key moment span = if span ≤ moment - (rd_T60 es (lows es key)).f1 then 1 else if (rd_T60 es (lows es key)).f2 = true then 3 else 2 := by unfold anss; rw [hh]; rfl
    rw [ha]
    obtain ⟨lo, hlo⟩ : ∃ lo, lows es key = lo := ⟨_, rfl⟩
    rw [hlo] at hat hlt HP ⊢
    have hk1 := rows_cell hr lo 1 hlt _ rfl (by omega)
    have hk2 := rows_cell hr lo 2 hlt _ rfl (by omega)
    obtain ⟨x, hx⟩ : ∃ x, rd_T60 es lo = x := ⟨_, rfl⟩
    rw [hx] at hat hk1 hk2 ⊢
    obtain ⟨y0, y1, y2⟩ := x
    have HC := Aside0.mk (And.intro hg (And.intro hr (And.intro hk1 hk2)))
    have hwm : wrap64 (moment - y1) = moment - y1 := wrap64_id (by unfold I64; dsimp only at hat; omega)
    have hlt1 : (lo : Int) < (es.length : Int) := by omega
    clear hg hr hk1 hk2 hx hat hlo ha hS hA hl hc hlt h0 h1
    have hcut : ∀ w1 : World, Below w.heap.size w w1 → w1.cell? ⟨g, 0, none⟩ = some (.slice (some ⟨b, 0, none⟩) es.length c) ∧ w1.cell? ⟨g, 2, none⟩ = some (.int .i64 span) ∧ w1.cell? ⟨b, lo * 3 + 1, none⟩ = some (.int .i64 y1) ∧ w1.cell? ⟨b, lo * 3 + 2, none⟩ = some (.bool y2) := fun w1 hb =>
      ⟨(blk_cell (blk_below HC.out.1 hb) 0).trans rfl, (blk_cell (blk_below HC.out.1 hb) 2).trans rfl, cell_later hb HC.out.2.2.1, cell_later hb HC.out.2.2.2⟩
    have HCUT := Aside0.mk hcut
    clear hcut
    by_cases c1 : span ≤ moment - y1
    · have d1 : decide (moment - y1 ≥ span) = true := decide_eq_true c1
      rw [if_pos c1]
      clear c1
      go_enter Try.func41, Try.ntmps41
      go_wp2_with (first | (go_at_call 43; refine (HP.out).mono ?_; rintro e_ w1 ⟨rfl, hb_⟩; have B1 := Aside0.mk hb_; obtain ⟨k1, k2, k3, k4⟩ := HCUT.out w1 hb_; clear hb_) | fail)
      go_quiet (fail)
      go_wp2
      go_ret
      exact ⟨rfl, pw_below_drewN B1.out _⟩
    · have d1 : decide (moment - y1 ≥ span) = false := decide_eq_false c1
      rw [if_neg c1]
      clear c1
      cases y2 with
      | false =>
        go_enter Try.func41, Try.ntmps41
        go_wp2_with (first | (go_at_call 43; refine (HP.out).mono ?_; rintro e_ w1 ⟨rfl, hb_⟩; have B1 := Aside0.mk hb_; obtain ⟨k1, k2, k3, k4⟩ := HCUT.out w1 hb_; clear hb_) | fail)
        go_quiet (fail)
        go_wp2
        go_ret
        exact ⟨rfl, pw_below_drewN B1.out _⟩
      | true =>
        go_enter Try.func41, Try.ntmps41
        go_wp2_with (first | (go_at_call 43; refine (HP.out).mono ?_; rintro e_ w1 ⟨rfl, hb_⟩; have B1 := Aside0.mk hb_; obtain ⟨k1, k2, k3, k4⟩ := HCUT.out w1 hb_; clear hb_) | fail)
        go_quiet (fail)
        go_wp2
        go_ret
        exact ⟨rfl, pw_below_drewN B1.out _⟩
end Go.Proofs.Ytbifanoiailjoaa.MRatePlays

/- Two entries by their age. -/
namespace Go.Proofs.Ytbifanoiailjoaa.MRatePlays
open Go.RowKit Go.Proofs.YtbifanoiailjoaaW.PrintWords Go.Proofs.YtbifanoiailjoaaW.PrintLast Go.Proofs.YtbifanoiailjoaaW.PrintMore Go.Proofs.Ytbifanoiailjoaa.Base
set_option linter.unusedVariables false
set_option linter.unusedSimpArgs false

def cmp_Compare_string.f (a0 : ByteArray) (a1 : ByteArray) : Option Int := some (cps a0 a1)
theorem cmp_Compare_string.calls (a0 : ByteArray) (a1 : ByteArray) (r : Int) (w : World) (h : cmp_Compare_string.f a0 a1 = some r) : Calls Try.prog 63 #[.string a0, .string a1] w fun e w' => e = .returned (.int .i64 r) ∧ Drawn0 w w' := by
  obtain rfl := Option.some.inj h
  exact cmps_k w a0 a1
/-! ### rate_older_string: function 74 -/
def rate_older_string.f (k : Nat) (a0_0 : ByteArray) (a0_1 : Int) (a0_2 : Bool) (a1_0 : ByteArray) (a1_1 : Int) (a1_2 : Bool) : Option (Int) := (cmp_Compare_int64.f a0_1 a1_1).bind fun t108 => ((cmp_Compare_string.f a0_0 a1_0).bind fun t109 => ((cmp_Or_int.f k (([t108, t109] : List Int))).bind fun t113 => (some t113)))
def rate_older_string.T1 : Bool × List (List Nat × List Nat) := (true, [([], []), ([0], [0]), ([], []), ([2], [2]), ([1, 3], [1, 3]), ([], []), ([5], [5]), ([], []), ([7], [7]), ([6, 8, 4], [6, 8]), ([4, 9], [4, 9]), ([10, 9], [10]), ([11, 11, 0, 1, 2, 3, 4, 5, 6, 7, 8, 9, 10, 11], [11])])
def rate_older_string.B1 : List Nat := [0, 1, 0, 4, 15, 0, 32, 0, 128, 511, 1023, 2047, 4095]
theorem rate_older_string.tab1 : rtab .any (opsOf Try.f74 1) = rate_older_string.T1 := by kernel_rfl
theorem rate_older_string.bits1 : waitsOk rate_older_string.T1.2 rate_older_string.B1 = true := by kernel_rfl
set_option maxHeartbeats 8000000 in
set_option maxRecDepth 100000 in
theorem rate_older_string.calls (k : Nat) (a0_0 : ByteArray) (a0_1 : Int) (a0_2 : Bool) (a1_0 : ByteArray) (a1_1 : Int) (a1_2 : Bool) (r : Int) (w : World) (h : rate_older_string.f k a0_0 a0_1 a0_2 a1_0 a1_1 a1_2 = some r) :
    Calls Try.prog 74 #[.agg #[.string a0_0, .int .i64 a0_1, .bool a0_2], .agg #[.string a1_0, .int .i64 a1_1, .bool a1_2]] w fun e w' => e = .returned (.int .i64 r) ∧ Below w.heap.size w w' := by
  have hu60 := Try.underlying60
  have HB := Aside0.mk (Below.refl w.heap.size w)
  have H : ((cmp_Compare_int64.f a0_1 a1_1).bind fun t108 => ((cmp_Compare_string.f a0_0 a1_0).bind fun t109 => ((cmp_Or_int.f k (([t108, t109] : List Int))).bind fun t113 => (some t113)))) = some r := h
  clear h
  replace H := Option.bind_eq_some_iff.mp H
  obtain ⟨t108, A30, H⟩ := H
  replace H : ((cmp_Compare_string.f a0_0 a1_0).bind fun t109 => ((cmp_Or_int.f k (([t108, t109] : List Int))).bind fun t113 => (some t113))) = some r := H
  have A3 := Aside0.mk A30
  clear A30
  replace H := Option.bind_eq_some_iff.mp H
  obtain ⟨t109, A40, H⟩ := H
  replace H : ((cmp_Or_int.f k (([t108, t109] : List Int))).bind fun t113 => (some t113)) = some r := H
  have A4 := Aside0.mk A40
  clear A40
  obtain ⟨y110, hy110⟩ : ∃ y_ : List Int, y_ = (([t108, t109] : List Int)) := ⟨_, rfl⟩
  replace H : ((cmp_Or_int.f k y110).bind fun t113 => (some t113)) = some r := by first | (rw [hy110]; with_reducible exact H) | (have H2_ := (Option.bind_some _ _).symm.trans H; rw [hy110]; with_reducible exact H2_) | (have H2_ := (Option.bind_some _ _).symm.trans H; with_reducible exact H2_) | with_reducible exact H | (rw [hy110]; exact H) | exact H
  have Ny110 := Aside0.mk hy110
  clear hy110
  replace H := Option.bind_eq_some_iff.mp H
  obtain ⟨t113, A50, H⟩ := H
  replace H : (some t113) = some r := H
  have A5 := Aside0.mk A50
  clear A50
  obtain rfl := Option.some.inj H
  go_enter Try.func74, Try.ntmps74
  try go_wp2_with (first | ((with_reducible refine gate_dst (N := 2) rfl ?_); refine box_event ?hg (N := 2) ?hd (cs := #[.string a0_0, .int .i64 a0_1, .bool a0_2]) (t := 60) ?hr ?_; (case hd => rfl); (case hg => rfl); (case hr => first | (go_simp; done) | (go_simp; rfl)); intro gb106 hg w6 hbox hb; have n0_ := Aside0.mk (below_step (by repeat (first | (with_reducible first | exact HB.out | apply below_alloc | apply pw_below_drewN | apply below_drew1) | exact HB.out)) hb); have n1_ := Aside0.mk (hbox); have n2_ := Aside0.mk ((by rw [hg]; exact (below_size (by repeat (first | (with_reducible first | exact HB.out | apply below_alloc | apply pw_below_drewN | apply below_drew1) | exact HB.out))) : w.heap.size ≤ gb106)); have n3_ := Aside0.mk ((by rw [hg]; exact (below_size (by repeat (first | (with_reducible first | exact HB.out | apply below_alloc | apply pw_below_drewN | apply below_drew1) | exact HB.out))) : w.heap.size ≤ gb106)); clear HB; have HB := n0_; have BK106 := n1_; have GW106 := n2_; have GE106 := n3_; clear n0_ n1_ n2_ n3_; clear hb hbox hg) | ((with_reducible refine gate_dst (N := 3) rfl ?_); refine box_event ?hg (N := 3) ?hd (cs := #[.string a1_0, .int .i64 a1_1, .bool a1_2]) (t := 60) ?hr ?_; (case hd => rfl); (case hg => rfl); (case hr => first | (go_simp; done) | (go_simp; rfl)); intro gb107 hg w7 hbox hb; have n0_ := Aside0.mk (blk_below (g := gb106) (o := .cells #[.string a0_0, .int .i64 a0_1, .bool a0_2] 60 (0, 0)) (by (with_reducible repeat (first | refine blk_drewN ?_ _ | refine blk_drew ?_ | refine blk_alloc ?_ _)); exact BK106.out) hb); have n1_ := Aside0.mk (below_step (by repeat (first | (with_reducible first | exact HB.out | apply below_alloc | apply pw_below_drewN | apply below_drew1 | refine below_set ?_ GE106.out) | exact HB.out)) hb); have n2_ := Aside0.mk (hbox); have n3_ := Aside0.mk ((by rw [hg]; exact (below_size (by repeat (first | (with_reducible first | exact HB.out | apply below_alloc | apply pw_below_drewN | apply below_drew1 | refine below_set ?_ GE106.out) | exact HB.out))) : w.heap.size ≤ gb107)); have n4_ := Aside0.mk ((by rw [hg]; exact (below_size (by repeat (first | (with_reducible first | exact HB.out | apply below_alloc | apply pw_below_drewN | apply below_drew1 | refine below_set ?_ GE106.out) | exact HB.out))) : w.heap.size ≤ gb107)); have n5_ := Aside0.mk ((by rw [hg]; exact Nat.ne_of_lt (blk_lt (g := gb106) (o := .cells #[.string a0_0, .int .i64 a0_1, .bool a0_2] 60 (0, 0)) (by (with_reducible repeat (first | refine blk_drewN ?_ _ | refine blk_drew ?_ | refine blk_alloc ?_ _)); exact BK106.out)) : gb106 ≠ gb107)); have n6_ := Aside0.mk ((by rw [hg]; exact Nat.ne_of_gt (blk_lt (g := gb106) (o := .cells #[.string a0_0, .int .i64 a0_1, .bool a0_2] 60 (0, 0)) (by (with_reducible repeat (first | refine blk_drewN ?_ _ | refine blk_drew ?_ | refine blk_alloc ?_ _)); exact BK106.out)) : gb107 ≠ gb106)); clear BK106; clear HB; have BK106 := n0_; have HB := n1_; have BK107 := n2_; have GW107 := n3_; have GE107 := n4_; have NB106_107 := n5_; have NB107_106 := n6_; clear n0_ n1_ n2_ n3_ n4_ n5_ n6_; clear hb hbox hg))
  have n0_ := Aside0.mk (blk_drew BK106.out)
  have n1_ := Aside0.mk (blk_drew BK107.out)
  have n2_ := Aside0.mk (below_drew1 HB.out)
  clear BK106
  clear BK107
  clear HB
  have BK106 := n0_
  have BK107 := n1_
  have HB := n2_
  clear n0_ n1_ n2_
  refine start_ (n := 13) (S := fun w' => w'.cell? ⟨gb106, 0, none⟩ = some (.string a0_0) ∧ w'.cell? ⟨gb106, 1, none⟩ = some (.int .i64 a0_1) ∧ w'.cell? ⟨gb106, 2, none⟩ = some (.bool a0_2) ∧ w'.cell? ⟨gb107, 0, none⟩ = some (.string a1_0) ∧ w'.cell? ⟨gb107, 1, none⟩ = some (.int .i64 a1_1) ∧ w'.cell? ⟨gb107, 2, none⟩ = some (.bool a1_2)) (ds := []) #[false, false, false, false, false, false, false, false, false, false, false, false, false] (by kernel_rfl) rfl rfl ⟨(blk_cell BK106.out 0).trans rfl, (blk_cell BK106.out 1).trans rfl, (blk_cell BK106.out 2).trans rfl, (blk_cell BK107.out 0).trans rfl, (blk_cell BK107.out 1).trans rfl, (blk_cell BK107.out 2).trans rfl⟩ (fun hHeld => ?_); refine with_tabW rate_older_string.tab1 rate_older_string.bits1 (fun HT_ HW_ => ?_)
  generalize w7.drew = w8 at BK106 BK107 HB hHeld ⊢
  refine pure_ (i := 0) (N := some 5) (v := ?_) (a' := ?_) #[true, false, false, false, false, false, false, false, false, false, false, false, false] rfl rfl (any_of HT_.out (by kernel_rfl)) (fun _ _ _ h => h) (Or.inl ⟨by rfl, ?_⟩) ?_ ?_
  rotate_left
  · intro w'
    go_simp
    with_reducible rfl
  rotate_left
  · simp only [Act.put, List.setIfInBounds_toArray, List.set_cons_zero, List.set_cons_succ, i64_w, i32_w]
    rfl
  refine pure_ (i := 2) (N := some 7) (v := ?_) (a' := ?_) #[true, false, true, false, false, false, false, false, false, false, false, false, false] rfl rfl (any_of HT_.out (by kernel_rfl)) (fun _ _ _ h => h) (Or.inl ⟨by rfl, ?_⟩) ?_ ?_
  rotate_left
  · intro w'
    go_simp
    with_reducible rfl
  rotate_left
  · simp only [Act.put, List.setIfInBounds_toArray, List.set_cons_zero, List.set_cons_succ, i64_w, i32_w]
    rfl
  refine pure_ (i := 5) (N := some 10) (v := ?_) (a' := ?_) #[true, false, true, false, false, true, false, false, false, false, false, false, false] rfl rfl (any_of HT_.out (by kernel_rfl)) (fun _ _ _ h => h) (Or.inl ⟨by rfl, ?_⟩) ?_ ?_
  rotate_left
  · intro w'
    go_simp
    with_reducible rfl
  rotate_left
  · simp only [Act.put, List.setIfInBounds_toArray, List.set_cons_zero, List.set_cons_succ, i64_w, i32_w]
    rfl
  refine pure_ (i := 7) (N := some 12) (v := ?_) (a' := ?_) #[true, false, true, false, false, true, false, true, false, false, false, false, false] rfl rfl (any_of HT_.out (by kernel_rfl)) (fun _ _ _ h => h) (Or.inl ⟨by rfl, ?_⟩) ?_ ?_
  rotate_left
  · intro w'
    go_simp
    with_reducible rfl
  rotate_left
  · simp only [Act.put, List.setIfInBounds_toArray, List.set_cons_zero, List.set_cons_succ, i64_w, i32_w]
    rfl
  refine take_ (i := 1) (N := some 6) (v := ?_) (a' := ?_) #[true, true, true, false, false, true, false, true, false, false, false, false, false] rfl rfl (take_ofW HT_.out HW_.out (by kernel_rfl)) (fun _ _ _ h => h) (Or.inl ⟨by rfl, ?_⟩) hHeld ?_ ?_
  rotate_left
  · rintro w' ⟨s0, s1, s2, s3, s4, s5⟩
    go_simp
    with_reducible rfl
  rotate_left
  · simp only [Act.put, List.setIfInBounds_toArray, List.set_cons_zero, List.set_cons_succ, i64_w, i32_w]
    rfl
  refine take_ (i := 3) (N := some 8) (v := ?_) (a' := ?_) #[true, true, true, true, false, true, false, true, false, false, false, false, false] rfl rfl (take_ofW HT_.out HW_.out (by kernel_rfl)) (fun _ _ _ h => h) (Or.inl ⟨by rfl, ?_⟩) hHeld ?_ ?_
  rotate_left
  · rintro w' ⟨s0, s1, s2, s3, s4, s5⟩
    go_simp
    with_reducible rfl
  rotate_left
  · simp only [Act.put, List.setIfInBounds_toArray, List.set_cons_zero, List.set_cons_succ, i64_w, i32_w]
    rfl
  refine take_ (i := 6) (N := some 11) (v := ?_) (a' := ?_) #[true, true, true, true, false, true, true, true, false, false, false, false, false] rfl rfl (take_ofW HT_.out HW_.out (by kernel_rfl)) (fun _ _ _ h => h) (Or.inl ⟨by rfl, ?_⟩) hHeld ?_ ?_
  rotate_left
  · rintro w' ⟨s0, s1, s2, s3, s4, s5⟩
    go_simp
    with_reducible rfl
  rotate_left
  · simp only [Act.put, List.setIfInBounds_toArray, List.set_cons_zero, List.set_cons_succ, i64_w, i32_w]
    rfl
  refine take_ (i := 8) (N := some 13) (v := ?_) (a' := ?_) #[true, true, true, true, false, true, true, true, true, false, false, false, false] rfl rfl (take_ofW HT_.out HW_.out (by kernel_rfl)) (fun _ _ _ h => h) (Or.inl ⟨by rfl, ?_⟩) hHeld ?_ ?_
  rotate_left
  · rintro w' ⟨s0, s1, s2, s3, s4, s5⟩
    go_simp
    with_reducible rfl
  rotate_left
  · simp only [Act.put, List.setIfInBounds_toArray, List.set_cons_zero, List.set_cons_succ, i64_w, i32_w]
    rfl
  refine one_ (i := 4) (N := some 9) #[true, true, true, true, true, true, true, true, true, false, false, false, false] rfl rfl (one_of HT_.out (by kernel_rfl)) (by decide) (fun K hK => ?_)
  refine goes_ Try.func76 (by kernel_rfl) rfl #[.int .i64 a0_1, .int .i64 a1_1] (by rfl) rfl rfl (by (try simp only [List.map_toArray, List.map_cons, List.map_nil]); first | done | rfl | (simp only [List.length_drop, List.length_take]; rfl) | (refine congrArg (fun z_ => #[Value.int IntKind.i64 z_]) (?_ : Go.RowKit.wrap64 (IntKind.u8.wrap _) = _); rw [IntKind.wrap_u8]; unfold Go.RowKit.wrap64; omega)) ?_
  with_reducible refine (cmp_Compare_int64.calls a0_1 a1_1 t108 _ A3.out).mono ?_
  rintro e w' ⟨rfl, ⟨nd, rfl⟩⟩
  refine ⟨_, rfl, ?_⟩
  refine hK.out _ _ ⟨(blk_cell BK106.out 0).trans rfl, (blk_cell BK106.out 1).trans rfl, (blk_cell BK106.out 2).trans rfl, (blk_cell BK107.out 0).trans rfl, (blk_cell BK107.out 1).trans rfl, (blk_cell BK107.out 2).trans rfl⟩ (fun hHeld => ?_)
  clear hK K
  refine norm_ (a' := ?_) ?_ ?_
  rotate_left
  · show Act.put _ (some 9) _ = _
    simp only [Act.put, List.setIfInBounds_toArray, List.set_cons_zero, List.set_cons_succ, i64_w, i32_w]
    rfl
  refine one_ (i := 9) (N := some 14) #[true, true, true, true, true, true, true, true, true, true, false, false, false] rfl rfl (one_of HT_.out (by kernel_rfl)) (by decide) (fun K hK => ?_)
  refine goes_ Try.func63 (by kernel_rfl) rfl #[.string a0_0, .string a1_0] (by rfl) rfl rfl (by (try simp only [List.map_toArray, List.map_cons, List.map_nil]); first | done | rfl | (simp only [List.length_drop, List.length_take]; rfl) | (refine congrArg (fun z_ => #[Value.int IntKind.i64 z_]) (?_ : Go.RowKit.wrap64 (IntKind.u8.wrap _) = _); rw [IntKind.wrap_u8]; unfold Go.RowKit.wrap64; omega)) ?_
  with_reducible refine (cmp_Compare_string.calls a0_0 a1_0 t109 _ A4.out).mono ?_
  rintro e w' ⟨rfl, ⟨nd, rfl⟩⟩
  refine ⟨_, rfl, ?_⟩
  refine hK.out _ _ ⟨(blk_cell BK106.out 0).trans rfl, (blk_cell BK106.out 1).trans rfl, (blk_cell BK106.out 2).trans rfl, (blk_cell BK107.out 0).trans rfl, (blk_cell BK107.out 1).trans rfl, (blk_cell BK107.out 2).trans rfl⟩ (fun hHeld => ?_)
  clear hK K
  refine norm_ (a' := ?_) ?_ ?_
  rotate_left
  · show Act.put _ (some 14) _ = _
    simp only [Act.put, List.setIfInBounds_toArray, List.set_cons_zero, List.set_cons_succ, i64_w, i32_w]
    rfl
  refine one_ (i := 10) (N := some 15) #[true, true, true, true, true, true, true, true, true, true, true, false, false] rfl rfl (one_of HT_.out (by kernel_rfl)) (by decide) (fun K hK => ?_)
  refine Kd.R_lit_step (Kd.int .i64) _ 3 ?hg (N := 15) ?hd (xs := ([t108, t109] : List Int)) (inner := [.int .i64 t108, .int .i64 t109]) (ok := fun _ => True) (okp := fun _ => True) ?hr ?hp (fun _ hk => hk) trivial (Below.refl _ _) (Nat.le_refl _) (by simp) ?_; (case hd => rfl); (case hg => rfl); (case hr => first | (go_simp; done) | (go_simp; rfl)); (case hp => exact (Reps.one (show Kd.M (Kd.int .i64) _ _ _ t108 [.int .i64 t108] from rfl) (Reps.one (show Kd.M (Kd.int .i64) _ _ _ t109 [.int .i64 t109] from rfl) (Reps.none _ _))))
  intro v111 w9 ho10 hb hg_ hnew_
  clear hg_ hnew_
  (first | rw [← Ny110.out] at ho10 | (simp only [Int.reduceToNat] at ho10; rw [← Ny110.out] at ho10))
  have n0_ := Aside0.mk (Kd.R_lower ho10 (below_size (by repeat (first | (with_reducible first | exact HB.out | apply below_alloc | apply pw_below_drewN | apply below_drew1 | refine below_set ?_ GE106.out | refine below_set ?_ GE107.out) | exact HB.out))))
  have n1_ := Aside0.mk (blk_below (g := gb106) (o := .cells #[.string a0_0, .int .i64 a0_1, .bool a0_2] 60 (0, 0)) (by (with_reducible repeat (first | refine blk_drewN ?_ _ | refine blk_drew ?_ | refine blk_alloc ?_ _)); exact BK106.out) hb)
  have n2_ := Aside0.mk (blk_below (g := gb107) (o := .cells #[.string a1_0, .int .i64 a1_1, .bool a1_2] 60 (0, 0)) (by (with_reducible repeat (first | refine blk_drewN ?_ _ | refine blk_drew ?_ | refine blk_alloc ?_ _)); exact BK107.out) hb)
  have n3_ := Aside0.mk (below_step (by repeat (first | (with_reducible first | exact HB.out | apply below_alloc | apply pw_below_drewN | apply below_drew1 | refine below_set ?_ GE106.out | refine below_set ?_ GE107.out) | exact HB.out)) hb)
  clear BK106
  clear BK107
  clear HB
  have HO112 := n0_
  have BK106 := n1_
  have BK107 := n2_
  have HB := n3_
  clear n0_ n1_ n2_ n3_
  clear hb ho10
  obtain ⟨Ao11, co11, eo11⟩ := Kd.R_slice HO112.out
  (first | subst eo11 | (injection eo11 with f1_ f2_ f3_; have f4_ := f1_.symm; have f5_ := f3_.symm; clear f1_ f2_ f3_; subst f4_; subst f5_))
  refine hK.out _ _ ⟨(blk_cell BK106.out 0).trans rfl, (blk_cell BK106.out 1).trans rfl, (blk_cell BK106.out 2).trans rfl, (blk_cell BK107.out 0).trans rfl, (blk_cell BK107.out 1).trans rfl, (blk_cell BK107.out 2).trans rfl⟩ (fun hHeld => ?_)
  clear hK K
  refine norm_ (a' := ?_) ?_ ?_
  rotate_left
  · show Act.put _ (some 15) _ = _
    simp only [Act.put, List.setIfInBounds_toArray, List.set_cons_zero, List.set_cons_succ, i64_w, i32_w]
    rfl
  refine one_ (i := 11) (N := some 16) #[true, true, true, true, true, true, true, true, true, true, true, true, false] rfl rfl (one_of HT_.out (by kernel_rfl)) (by decide) (fun K hK => ?_)
  refine goes_ Try.func75 (by kernel_rfl) rfl #[.slice Ao11 y110.length co11] (by rfl) rfl rfl (by (try simp only [List.map_toArray, List.map_cons, List.map_nil]); first | done | rfl | (simp only [List.length_drop, List.length_take]; rfl) | (refine congrArg (fun z_ => #[Value.int IntKind.i64 z_]) (?_ : Go.RowKit.wrap64 (IntKind.u8.wrap _) = _); rw [IntKind.wrap_u8]; unfold Go.RowKit.wrap64; omega)) ?_
  with_reducible refine (cmp_Or_int.calls k _ _ y110 t113 _ ?side1 ?side2 A5.out).mono ?_
  (case side1 => repeat (first | exact (Kd.R_reads' HO112.out).2.2 | (with_reducible refine Kd.C_alloc ?_ _) | (with_reducible refine Kd.C_drewN ?_ _) | (with_reducible refine Kd.C_drew ?_)))
  (case side2 => exact (Kd.R_reads' HO112.out).2.1)
  rintro e w' ⟨rfl, ⟨nd, rfl⟩⟩
  refine ⟨_, rfl, ?_⟩
  refine hK.out _ _ ⟨(blk_cell BK106.out 0).trans rfl, (blk_cell BK106.out 1).trans rfl, (blk_cell BK106.out 2).trans rfl, (blk_cell BK107.out 0).trans rfl, (blk_cell BK107.out 1).trans rfl, (blk_cell BK107.out 2).trans rfl⟩ (fun hHeld => ?_)
  clear hK K
  refine norm_ (a' := ?_) ?_ ?_
  rotate_left
  · show Act.put _ (some 16) _ = _
    simp only [Act.put, List.setIfInBounds_toArray, List.set_cons_zero, List.set_cons_succ, i64_w, i32_w]
    rfl
  refine pure_ (i := 12) (N := some 4) (v := ?_) (a' := ?_) #[true, true, true, true, true, true, true, true, true, true, true, true, true] rfl rfl (any_of HT_.out (by kernel_rfl)) (fun _ _ _ h => h) (Or.inl ⟨by rfl, ?_⟩) ?_ ?_
  rotate_left
  · intro w'
    go_simp
    with_reducible rfl
  rotate_left
  · simp only [Act.put, List.setIfInBounds_toArray, List.set_cons_zero, List.set_cons_succ, i64_w, i32_w]
    rfl
  refine done_ (done_of HT_.out (by kernel_rfl)) ?_
  try go_wp2
  go_ret
  exact ⟨by first | rfl | (simp [errW_none, errW_some] <;> rfl) | (simp [*, errW_none, errW_some] <;> rfl), by repeat (first | (with_reducible first | exact HB.out | apply below_alloc | apply pw_below_drewN | apply below_drew1 | refine below_set ?_ GE106.out | refine below_set ?_ GE107.out) | exact HB.out)⟩

-- NOT PRINTED: function 64 (rate_Table_string_Oldest)

-- NOT PRINTED: function 44 (rate_Table_string_trim)

-- NOT PRINTED: function 70 (rate_Entry_string_70)
theorem cmpsf (a b : ByteArray) : cmp_Compare_string.f a b = some (cps a b) := rfl
def olds (x y : S60) : Int := if cp64 x.f1 y.f1 = 0 then cps x.f0 y.f0 else cp64 x.f1 y.f1
theorem olders_c (w : World) (x y : S60) : Calls Try.prog 74 #[.agg #[.string x.f0, .int .i64 x.f1, .bool x.f2], .agg #[.string y.f0, .int .i64 y.f1, .bool y.f2]] w fun e w' => e = .returned (.int .i64 (olds x y)) ∧ Below w.heap.size w w' := by
  refine rate_older_string.calls 4 x.f0 x.f1 x.f2 y.f0 y.f1 y.f2 (olds x y) w ?_
  unfold rate_older_string.f
  rw [cp64_f, cmpsf]
  simp only [Option.bind_some, or2]
  rfl
/-- The one that goes first. -/
def mins : S60 → List S60 → S60
  | m, [] => m
  | m, x :: r => mins (if olds x m < 0 then x else m) r
theorem mins_snoc (m : S60) (r : List S60) (x : S60) : mins m (r ++ [x]) = if olds x (mins m r) < 0 then x else mins m r := by
  induction r generalizing m with
  | nil => rfl
  | cons y r ih => exact ih _
theorem encs_one (x : S60) : (encs x).all (·.oneCell') = true := by simp [encs, Value.oneCell']
theorem arrs_one (x : S60) : (#[.string x.f0, .int .i64 x.f1, .bool x.f2] : Array Value).all (·.oneCell') = true := by simp [Value.oneCell']
set_option maxHeartbeats 4000000 in
set_option maxRecDepth 100000 in
theorem minfs_c (w : World) (b c : Nat) (e0 : S60) (er : List S60) (rest : List Value) (hC : Rows w b (e0 :: er) rest) (hc : (e0 :: er).length ≤ c) (hn : (e0 :: er).length ≤ 1000000) :
    Calls Try.prog 73 #[.slice (some ⟨b, 0, none⟩) (e0 :: er).length c, .func (.func 74) #[] #[]] w fun e w' => e = .returned (.agg #[.string (mins e0 er).f0, .int .i64 (mins e0 er).f1, .bool (mins e0 er).f2]) ∧ Below w.heap.size w w' := by
  obtain ⟨es, hes⟩ : ∃ es, e0 :: er = es := ⟨_, rfl⟩
  rw [hes] at hC hc hn ⊢
  have HC := Aside0.mk hC
  have HCC := Aside0.mk hc
  have HB := Aside0.mk (Below.refl w.heap.size w)
  have hlt0 : decide ((es.length : Int) < 1) = false := by rw [← hes]; exact decide_eq_false (by simp; omega)
  have HE := Aside0.mk hes
  have hp0 : (0 : Int) < (es.length : Int) := by rw [← hes]; simp
  clear hC hc hes
  go_enter Try.func73, Try.ntmps73
  go_upto_region 3 with (first | ((with_reducible refine gate_dst (N := 4) rfl ?_); refine box_event ?hg (N := 4) ?hd (cs := #[.string ⟨#[]⟩, .int .i64 0, .bool false]) (t := 60) ?hr ?_; (case hd => rfl); (case hg => rfl); (case hr => go_simp; try rfl); intro gr hg_ wr1 hx_ hb_; have Gr := Aside0.mk hg_; have Hr := Aside0.mk hb_; have Br := Aside0.mk hx_; clear hg_ hx_ hb_; skip) | fail)
  have PR := Aside0.mk (PH.start HB.out Hr.out Gr.out Br.out)
  have HR := Aside0.mk (show wr1.heap[b]? = some (.cells (encss es ++ rest).toArray 60 (0, 0)) from blk_below HC.out PR.out.bel)
  clear Gr Hr Br HB
  have hz0 := rows_cell HR.out 0 0 (by omega) _ rfl (by omega)
  have hz1 := rows_cell HR.out 0 1 (by omega) _ rfl (by omega)
  have hz2 := rows_cell HR.out 0 2 (by omega) _ rfl (by omega)
  have he0 : rd_T60 es ((0 : Nat) : Int) = e0 := by rw [← HE.out]; rfl
  rw [he0] at hz0 hz1 hz2
  go_upto_region 4 with (first | ((with_reducible refine gate_dst (N := 5) rfl ?_); refine box_event ?hg (N := 5) ?hd (cs := #[.string ⟨#[]⟩, .int .i64 0, .bool false]) (t := 60) ?hr ?_; (case hd => rfl); (case hg => rfl); (case hr => go_simp; try rfl); intro gm hg_ wm hx_ hb_; have Gm := Aside0.mk hg_; have Hm := Aside0.mk hb_; have Bm := Aside0.mk hx_; clear hg_ hx_ hb_; skip) | ((with_reducible refine gate_store (t := 60) (p := 5) rfl ?_); refine wpList_store_row rfl 60 _ _ rfl gm #[.string e0.f0, .int .i64 e0.f1, .bool e0.f2] rfl rfl 60 _ Bm.out (by kernel_rfl) (by rfl) (arrs_one e0) ?_) | fail)
  have hgm : gr ≠ gm := fun e => by have q := blk_lt PR.out.row; rw [e, Gm.out] at q; exact Nat.lt_irrefl _ q
  have PM := Aside0.mk ((PH.start PR.out.bel Hm.out Gm.out Bm.out).set #[.string e0.f0, .int .i64 e0.f1, .bool e0.f2])
  have PR2 := Aside0.mk ((PR.out.below Hm.out).setx (cs' := #[.string e0.f0, .int .i64 e0.f1, .bool e0.f2]) PM.out.new hgm)
  clear PR HR hz0 hz1 hz2 Gm Hm Bm
  generalize wm.setRow gm #[.string e0.f0, .int .i64 e0.f1, .bool e0.f2] = w2 at PM PR2 ⊢
  have hel : es.length = er.length + 1 := by rw [← HE.out]; rfl
  have HEL := Aside0.mk hel
  clear hel
  go_wp2
  go_loopg [6] es.length (fun kx s6 wr => ∃ i : Nat, s6 = .int .i64 i ∧ 1 ≤ i ∧ i ≤ es.length ∧ es.length - i ≤ kx ∧ Aside0 (PH 60 w gr #[.string ⟨#[]⟩, .int .i64 0, .bool false] wr) ∧ Aside0 (PH 60 w gm #[.string (mins e0 (er.take (i - 1))).f0, .int .i64 (mins e0 (er.take (i - 1))).f1, .bool (mins e0 (er.take (i - 1))).f2] wr))
  case atStart => exact ⟨1, rfl, Nat.le_refl _, by omega, by omega, PR2, PM⟩
  case round =>
    obtain ⟨i, rfl, hi1, hi2, hg, R1, M1⟩ := hrel
    by_cases hlt : i < es.length
    · have hltn : (i : Int) < (es.length : Int) := by omega
      have HR := Aside0.mk (show wr.heap[b]? = some (.cells (encss es ++ rest).toArray 60 (0, 0)) from blk_below HC.out R1.out.bel)
      obtain ⟨mm, hmm⟩ : ∃ mm, mins e0 (er.take (i - 1)) = mm := ⟨_, rfl⟩
      have HMM := Aside0.mk hmm
      rw [hmm] at M1
      obtain ⟨x, hx⟩ : ∃ x, rd_T60 es (i : Int) = x := ⟨_, rfl⟩
      have HX := Aside0.mk hx
      have hx0 := rows_cell HR.out i 0 hlt _ rfl (by omega)
      have hx1 := rows_cell HR.out i 1 hlt _ rfl (by omega)
      have hx2 := rows_cell HR.out i 2 hlt _ rfl (by omega)
      rw [hx] at hx0 hx1 hx2
      have HXC := Aside0.mk (And.intro hx0 (And.intro hx1 hx2))
      have HO := Aside0.mk (fun W => olders_c W x mm)
      have HI := Aside0.mk (And.intro hi1 hi2)
      have HLT := Aside0.mk hlt
      clear hmm hx hx0 hx1 hx2 hi1 hi2 hlt
      go_upto_region 7 with (fail)
      refine region_below (T := ?T) (n := 0) [some 20, some 21, some 22, some 23, some 24, some 25, some 26, some 27] ?hT (fun i_ v_ _ => v_ = [.func (.func 74) #[] #[], .slice (some ⟨b, 0, none⟩) es.length c, .int .i64 i, .pointer (some ⟨b, i * 3, none⟩), .agg #[.string x.f0, .int .i64 x.f1, .bool x.f2], .agg #[.string mm.f0, .int .i64 mm.f1, .bool mm.f2], .int .i64 (olds x mm), .bool (decide (olds x mm < 0))].getD i_ undef) (by kernel_rfl) (by kernel_rfl) (fun i_ v_ w_ w1_ _ h_ _ => h_) [0, 1, 2, 3, 4, 5, 6, 7] rfl (.cons (some 20) rfl rfl (fun X wx hG hX K hK => ?_) (.cons (some 21) rfl rfl (fun X wx hG hX K hK => ?_) (.cons (some 22) rfl rfl (fun X wx hG hX K hK => ?_) (.cons (some 23) rfl rfl (fun X wx hG hX K hK => ?_) (.cons (some 24) rfl rfl (fun X wx hG hX K hK => ?_) (.cons (some 25) rfl rfl (fun X wx hG hX K hK => ?_) (.cons (some 26) rfl rfl (fun X wx hG hX K hK => ?_) (.cons (some 27) rfl rfl (fun X wx hG hX K hK => ?_) .nil)))))))) (by kernel_rfl) #[true, true, true, true, true, true, true, true] (by kernel_rfl) ?_
      case hT =>
        intro X
        simp only [fill, Act.put, List.setIfInBounds_toArray, List.set_cons_zero, List.set_cons_succ, Nat.zero_add, Nat.reduceAdd]
        rfl
      · refine val_ (w1 := wx) (v := .func (.func 74) #[] #[]) (by rfl) rfl ?_ (hK.out _ _ _ rfl (Below.refl _ _) rfl)
        go_simp
      · refine val_ (w1 := wx) (v := .slice (some ⟨b, 0, none⟩) es.length c) (by rfl) rfl ?_ (hK.out _ _ _ rfl (Below.refl _ _) rfl)
        go_simp
      · refine val_ (w1 := wx) (v := .int .i64 i) (by rfl) rfl ?_ (hK.out _ _ _ rfl (Below.refl _ _) rfl)
        go_simp
      · have e1 : X 1 = .slice (some ⟨b, 0, none⟩) es.length c := hX 1 1 (by kernel_rfl)
        have e2 : X 2 = .int .i64 i := hX 2 2 (by kernel_rfl)
        refine val_ (w1 := wx) (v := .pointer (some ⟨b, i * 3, none⟩)) (by rfl) rfl ?_ (hK.out _ _ _ rfl (Below.refl _ _) rfl)
        go_simp
      · have e3 : X 3 = .pointer (some ⟨b, i * 3, none⟩) := hX 3 3 (by kernel_rfl)
        have s0 : wx.cell? ⟨b, i * 3, none⟩ = some (.string x.f0) := cell_later hG (show wr.drew.cell? ⟨b, i * 3, none⟩ = _ from HXC.out.1)
        have s1 : wx.cell? ⟨b, i * 3 + 1, none⟩ = some (.int .i64 x.f1) := cell_later hG (show wr.drew.cell? ⟨b, i * 3 + 1, none⟩ = _ from HXC.out.2.1)
        have s2 : wx.cell? ⟨b, i * 3 + 2, none⟩ = some (.bool x.f2) := cell_later hG (show wr.drew.cell? ⟨b, i * 3 + 2, none⟩ = _ from HXC.out.2.2)
        refine val_ (w1 := wx) (v := .agg #[.string x.f0, .int .i64 x.f1, .bool x.f2]) (by rfl) rfl ?_ (hK.out _ _ _ rfl (Below.refl _ _) rfl)
        go_simp
      · have s0 : wx.cell? ⟨gm, 0, none⟩ = some (.string mm.f0) := (blk_cell (blk_below (blk_drew M1.out.row) hG) 0).trans rfl
        have s1 : wx.cell? ⟨gm, 1, none⟩ = some (.int .i64 mm.f1) := (blk_cell (blk_below (blk_drew M1.out.row) hG) 1).trans rfl
        have s2 : wx.cell? ⟨gm, 2, none⟩ = some (.bool mm.f2) := (blk_cell (blk_below (blk_drew M1.out.row) hG) 2).trans rfl
        refine val_ (w1 := wx) (v := .agg #[.string mm.f0, .int .i64 mm.f1, .bool mm.f2]) (by rfl) rfl ?_ (hK.out _ _ _ rfl (Below.refl _ _) rfl)
        go_simp
      · have e0 : X 0 = .func (.func 74) #[] #[] := hX 6 0 (by kernel_rfl)
        have e4 : X 4 = .agg #[.string x.f0, .int .i64 x.f1, .bool x.f2] := hX 6 4 (by kernel_rfl)
        have e5 : X 5 = .agg #[.string mm.f0, .int .i64 mm.f1, .bool mm.f2] := hX 6 5 (by kernel_rfl)
        refine goesV_ Try.func74 (by kernel_rfl) rfl #[X 4, X 5] (by rfl) rfl _ rfl e0 (by simp only [List.map_toArray, List.map_cons, List.map_nil]; rfl) ?_
        refine calls_args (args2 e4 e5) ?_
        refine (HO.out wx).mono ?_
        rintro e w' ⟨rfl, hb⟩
        exact ⟨_, rfl, hK.out _ _ _ rfl hb rfl⟩
      · have e6 : X 6 = .int .i64 (olds x mm) := hX 7 6 (by kernel_rfl)
        refine val_ (w1 := wx) (v := .bool (decide (olds x mm < 0))) (by rfl) rfl ?_ (hK.out _ _ _ rfl (Below.refl _ _) rfl)
        go_simp
      intro X wx hG hX
      refine tail_done (by kernel_rfl) ?_
      have e7 : X 7 = .bool (decide (olds x mm < 0)) := hX 7 (by decide)
      rw [e7]
      have R2 := Aside0.mk (R1.out.below hG)
      have M2 := Aside0.mk (M1.out.below hG)
      have s0 : wx.cell? ⟨b, i * 3, none⟩ = some (.string x.f0) := cell_later hG (show wr.drew.cell? ⟨b, i * 3, none⟩ = _ from HXC.out.1)
      have s1 : wx.cell? ⟨b, i * 3 + 1, none⟩ = some (.int .i64 x.f1) := cell_later hG (show wr.drew.cell? ⟨b, i * 3 + 1, none⟩ = _ from HXC.out.2.1)
      have s2 : wx.cell? ⟨b, i * 3 + 2, none⟩ = some (.bool x.f2) := cell_later hG (show wr.drew.cell? ⟨b, i * 3 + 2, none⟩ = _ from HXC.out.2.2)
      have hmin : mins e0 (er.take ((i + 1 : Nat) - 1)) = if olds x mm < 0 then x else mm := by
        have q : er.take (i + 1 - 1) = er.take (i - 1) ++ [x] := by
          have hi := HI.out.1
          have hl := HLT.out
          have hh := HEL.out
          have ex : er[i - 1]'(by omega) = x := by
            rw [← HX.out, rds_get es i hl]
            have : es[i] = (e0 :: er)[i]'(by simp; omega) := by simp only [HE.out]
            rw [this, List.getElem_cons]
            rw [dif_neg (by omega)]
          have this := List.take_append_getElem (l := er) (i := i - 1) (by omega)
          rw [ex] at this
          rw [this]
          exact congrArg (fun k => List.take k er) (by omega)
        rw [q, mins_snoc, HMM.out]
      have hwi : wrap64 ((i : Int) + 1) = ((i + 1 : Nat) : Int) := by rw [wrap64_id (by unfold I64; omega)]; rfl
      clear hG hX e7
      generalize wx = wy at R2 M2 s0 s1 s2 ⊢
      by_cases ho : olds x mm < 0
      · have hod : decide (olds x mm < 0) = true := decide_eq_true ho
        rw [if_pos ho] at hmin
        clear ho
        have HMIN := Aside0.mk hmin
        clear hmin
        rw [hod]
        go_upto_region 6 with (first | ((with_reducible refine gate_store (t := 60) (p := 5) rfl ?_); refine wpList_store_row rfl 60 _ _ rfl gm #[.string x.f0, .int .i64 x.f1, .bool x.f2] rfl rfl 60 _ M2.out.row (by kernel_rfl) (by rfl) (arrs_one x) ?_) | fail)
        have M3 := Aside0.mk (M2.out.set #[.string x.f0, .int .i64 x.f1, .bool x.f2])
        have R3 := Aside0.mk (R2.out.setx (cs' := #[.string x.f0, .int .i64 x.f1, .bool x.f2]) M2.out.new hgm)
        clear s0 s1 s2
        generalize wy.setRow gm #[.string x.f0, .int .i64 x.f1, .bool x.f2] = wz at M3 R3 ⊢
        go_wp2
        go_roundg (es.length - (i + 1))
        case measure => have q := HLT.out; omega
        case rel => exact ⟨i + 1, by first | rfl | go_num, by omega, by have q := HLT.out; omega, Nat.le_refl _, R3, by rw [HMIN.out]; exact M3⟩
      · have hod : decide (olds x mm < 0) = false := decide_eq_false ho
        rw [if_neg ho] at hmin
        clear ho
        have HMIN := Aside0.mk hmin
        clear hmin
        rw [hod]
        go_wp2
        go_roundg (es.length - (i + 1))
        case measure => have q := HLT.out; omega
        case rel => exact ⟨i + 1, by first | rfl | go_num, by omega, by have q := HLT.out; omega, Nat.le_refl _, R2, by rw [HMIN.out]; exact M2⟩
    · obtain rfl : i = es.length := by omega
      have hme : mins e0 (er.take (es.length - 1)) = mins e0 er := by rw [List.take_of_length_le (by have q := HEL.out; omega)]
      rw [hme] at M1
      clear hme
      obtain ⟨mm, hmm⟩ : ∃ mm, mins e0 er = mm := ⟨_, rfl⟩
      rw [hmm] at M1
      have HMM := Aside0.mk hmm
      clear hmm
      have s0 : wr.cell? ⟨gm, 0, none⟩ = some (.string mm.f0) := (blk_cell M1.out.row 0).trans rfl
      have s1 : wr.cell? ⟨gm, 1, none⟩ = some (.int .i64 mm.f1) := (blk_cell M1.out.row 1).trans rfl
      have s2 : wr.cell? ⟨gm, 2, none⟩ = some (.bool mm.f2) := (blk_cell M1.out.row 2).trans rfl
      go_wp2_with (first | ((with_reducible refine gate_store (t := 60) (p := 4) rfl ?_); refine wpList_store_row rfl 60 _ _ rfl gr #[.string mm.f0, .int .i64 mm.f1, .bool mm.f2] rfl rfl 60 _ R1.out.row (by kernel_rfl) (by rfl) (arrs_one mm) ?_) | fail)
      refine bodyPost_ret (results_cell_row rfl _ _ gr 60 #[.string mm.f0, .int .i64 mm.f1, .bool mm.f2] (0, 0) _ rfl (R1.out.set _).row Try.underlying60 rfl (by kernel_rfl)) rfl ?_
      exact ⟨by rw [HMM.out], (R1.out.set _).bel⟩
end Go.Proofs.Ytbifanoiailjoaa.MRatePlays

/- Entries taken out; the oldest one. -/
namespace Go.Proofs.Ytbifanoiailjoaa.MRatePlays
open Go.RowKit Go.Proofs.YtbifanoiailjoaaW.PrintWords Go.Proofs.YtbifanoiailjoaaW.PrintLast Go.Proofs.YtbifanoiailjoaaW.PrintMore Go.Proofs.Ytbifanoiailjoaa.Base
set_option linter.unusedVariables false
set_option linter.unusedSimpArgs false

theorem infos : ∃ i, Try.prog.info? 60 = some i ∧ i.zero = some (.agg #[.string ⟨#[]⟩, .int .i64 0, .bool false]) ∧ i.size = 3 ∧ i.bytes = 32 := by
  have h : (Try.prog.info? 60).map (fun i => (i.zero, i.size, i.bytes)) = some (some (.agg #[.string ⟨#[]⟩, .int .i64 0, .bool false]), 3, 32) := by kernel_rfl
  obtain ⟨i, hi, h⟩ := Option.map_eq_some_iff.1 h
  simp only [Prod.mk.injEq] at h
  exact ⟨i, hi, h.1, h.2.1, h.2.2⟩
theorem zeros (w : World) : (zeroValue 60).run Try.prog w = .ok (.agg #[.string ⟨#[]⟩, .int .i64 0, .bool false]) w := by
  obtain ⟨i, hi, hz, _⟩ := infos
  simp [zeroValue, typeInfo, hi, hz]
theorem encss_app (a b : List S60) : encss (a ++ b) = encss a ++ encss b := by simp [encss]
theorem encss_one (es : List S60) : ∀ v ∈ encss es, v.oneCell' = true := by
  intro v hv
  simp only [encss, List.mem_flatMap] at hv
  obtain ⟨x, _, hv⟩ := hv
  exact (List.all_eq_true.1 (encs_one x)) v hv
/-- The cells of some entries, where they lie. -/
theorem rows_src {W : World} {b : Nat} {es : List S60} {rest : List Value} (h : Rows W b es rest) (A B C : List S60) (he : es = A ++ B ++ C) (o : Nat) (ho : o = A.length * 3) (j : Nat) (v : Value) (hj : (encss B)[j]? = some v) : W.cell? ((⟨b, o, none⟩ : Addr).add j) = some v := by
  subst he ho
  rw [Addr.add_lit, blk_cell h, ← hj]
  simp only [encss_app, List.append_assoc, List.getElem?_toArray]
  have hl := encss_len A
  rw [List.getElem?_append_right (by omega), List.getElem?_append_left (by have := (List.getElem?_eq_some_iff.1 hj).1; omega)]
  congr 1
  omega
theorem zcs : (Builtin.zeroCells (Value.agg #[.string ⟨#[]⟩, .int .i64 0, .bool false]).cells 1).toList = [.string ⟨#[]⟩, .int .i64 0, .bool false] := by
  simp [Builtin.zeroCells, Value.cells]
  try rfl
theorem zcs_one : ∀ v ∈ ([.string ⟨#[]⟩, .int .i64 0, .bool false] : List Value), v.oneCell' = true := by simp [Value.oneCell']
set_option maxHeartbeats 4000000 in
set_option maxRecDepth 100000 in
theorem deletes_c (w : World) (b c : Nat) (A C : List S60) (x : S60) (rest : List Value) (hC : Rows w b (A ++ [x] ++ C) rest) (hc : A.length + C.length + 1 ≤ c) (hcm : c ≤ 9223372036854775807) (hn : A.length + C.length ≤ 1000000) :
    Calls Try.prog 45 #[.slice (some ⟨b, 0, none⟩) (A.length + C.length + 1) c, .int .i64 A.length, .int .i64 ((A.length + 1 : Nat) : Int)] w fun e w' => e = .returned (.slice (some ⟨b, 0, none⟩) (A.length + C.length) c) ∧ Rows w' b (A ++ C) (.string ⟨#[]⟩ :: .int .i64 0 :: .bool false :: rest) ∧ Fr (fun k => k = b) w w' := by
  obtain ⟨i, hi, hz, hs, hby⟩ := infos
  obtain ⟨C0, D, hCD, hD⟩ : ∃ (C0 : List Value) (D : List Value), encss ([x] ++ C) = C0 ++ D ∧ D.length = 3 := ⟨(encss ([x] ++ C)).take (3 * C.length), (encss ([x] ++ C)).drop (3 * C.length), (List.take_append_drop _ _).symm, by rw [List.length_drop, encss_len]; simp; omega⟩
  have hC0 : C0.length = 3 * C.length := by
    have := congrArg List.length hCD
    rw [encss_len, List.length_append] at this
    simp at this
    omega
  have happ : ∀ W : World, Rows W b (A ++ [x] ++ C) rest → ∀ (a : Addr) (sc : Nat), (C.length = 0 ∨ a = ⟨b, (A.length + 1) * 3, none⟩) → ∀ ty, (Builtin.append_ #[52, 52] ty #[.slice (some ⟨b, 0, none⟩) A.length c, .slice (some a) C.length sc]).run Try.prog W =
      .ok (.slice (some ⟨b, 0, none⟩) (A.length + C.length) c) (W.setRow b (encss A ++ encss C ++ (D ++ rest)).toArray) := fun W hW a sc ha ty => by
    refine run_append_mid W 52 ty 60 i Try.underlying52 hi b A.length c a C.length sc (encss C) (by rw [encss_len, hs]; omega) (fun j u hj => ?_) (encss_one C) (by omega) 60 (encss A) C0 (D ++ rest) ?_ (by rw [encss_len, hC0]) (by rw [encss_len, hs]; omega)
    · rcases ha with h0 | rfl
      · rw [List.length_eq_zero_iff.1 h0] at hj
        simp [encss] at hj
      · exact rows_src hW (A ++ [x]) C [] (by simp) _ (by simp) j u hj
    · rw [hW, List.append_assoc A, encss_app, hCD]
      simp
  have hclr : ∀ W : World, W.heap[b]? = some (.cells (encss A ++ encss C ++ (D ++ rest)).toArray 60 (0, 0)) → ∀ ty c', (Builtin.clear_ #[52] ty #[.slice (some ⟨b, (A.length + C.length) * 3, none⟩) 1 c']).run Try.prog W =
      .ok (.tuple #[]) (W.setRow b (encss (A ++ C) ++ (.string ⟨#[]⟩ :: .int .i64 0 :: .bool false :: rest)).toArray) := fun W hW ty c' => by
    have := run_clear_mid W 52 60 ty (.agg #[.string ⟨#[]⟩, .int .i64 0, .bool false]) Try.underlying52 zeros b ((A.length + C.length) * 3) 1 c' (by decide) [.string ⟨#[]⟩, .int .i64 0, .bool false] zcs zcs_one 60 (encss (A ++ C)) D rest (by rw [hW, encss_app]; simp) (by rw [hD]; rfl) (by rw [encss_len]; simp; omega)
    rw [this]
    simp
  obtain ⟨p, hp⟩ : ∃ p, A.length = p := ⟨_, rfl⟩
  obtain ⟨q, hq⟩ : ∃ q, C.length = q := ⟨_, rfl⟩
  have HC := Aside0.mk (show w.drew.heap[b]? = some (.cells (encss (A ++ [x] ++ C) ++ rest).toArray 60 (0, 0)) from hC)
  rw [hp, hq] at hc hn happ hclr ⊢
  have HAPP := Aside0.mk happ
  have HCLR := Aside0.mk hclr
  have hb1 : (p : Int) ≤ (p : Int) + 1 := by omega
  have hb2 : (p : Int) + 1 ≤ (p : Int) + (q : Int) + 1 := by omega
  have hb3 : (p : Int) + (q : Int) + 1 ≤ (c : Int) := by omega
  clear hC happ hclr hCD hC0 hD hi hz hs hby hp hq
  go_enter Try.func45, Try.ntmps45
  go_upto_region 5 with (fail)
  have hpc : p ≤ c := by omega
  have hpn : p + 1 ≤ p + q + 1 := by omega
  have hp0 : (0 : Int) ≤ (p : Int) + 1 := by omega
  obtain ⟨ad, had, hadq⟩ : ∃ ad : Addr, (if c = p + 1 then some (⟨b, 0, none⟩ : Addr) else some ⟨b, (p + 1) * 3, none⟩) = some ad ∧ (q = 0 ∨ ad = ⟨b, (p + 1) * 3, none⟩) := by
    by_cases h : c = p + 1
    · exact ⟨_, by rw [if_pos h], .inl (by omega)⟩
    · exact ⟨_, by rw [if_neg h], .inr rfl⟩
  go_region_law (refine step_append_run rfl _ _ 52 52 rfl (.slice (some ⟨b, 0, none⟩) p c) (.slice (some ad) q (c - (p + 1))) (by simp [Act.eval, Act.put]) (by rw [← had]; simp [Act.eval, Act.put]) (HAPP.out _ HC.out ad _ hadq _) ?_)
  have hR1 := setRow_heap w.drew b _ (encss A ++ (encss C ++ (D ++ rest))).toArray _ _ HC.out
  have hF1 : Fr (fun k => k = b) w (w.drew.setRow b (encss A ++ (encss C ++ (D ++ rest))).toArray) := (Fr.refl _ w).drew.set b _ (.inl rfl)
  generalize w.drew.setRow b (encss A ++ (encss C ++ (D ++ rest))).toArray = W1 at hR1 hF1 ⊢
  have hcl := HCLR.out W1 (by rw [hR1, List.append_assoc])
  have hF2 := Aside0.mk (hF1.set b (encss (A ++ C) ++ (.string ⟨#[]⟩ :: .int .i64 0 :: .bool false :: rest)).toArray (.inl rfl))
  have hR2 := Aside0.mk (setRow_heap W1 b _ (encss (A ++ C) ++ (.string ⟨#[]⟩ :: .int .i64 0 :: .bool false :: rest)).toArray _ _ hR1)
  clear hR1 hF1 HCLR HAPP had hadq
  have hpq : p + q ≤ p + q + 1 := by omega
  have hpq1 : p + q + 1 - (p + q) = 1 := by omega
  go_wp2
  go_ret
  exact ⟨rfl, hR2.out, hF2.out⟩
end Go.Proofs.Ytbifanoiailjoaa.MRatePlays

/- A key is forgotten. -/
namespace Go.Proofs.Ytbifanoiailjoaa.MRatePlays
open Go.RowKit Go.Proofs.YtbifanoiailjoaaW.PrintWords Go.Proofs.YtbifanoiailjoaaW.PrintLast Go.Proofs.YtbifanoiailjoaaW.PrintMore Go.Proofs.Ytbifanoiailjoaa.Base
set_option linter.unusedVariables false
set_option linter.unusedSimpArgs false

def fgts (es : List S60) (key : ByteArray) : List S60 := if hass es key = true then es.take (lows es key) ++ es.drop (lows es key + 1) else es
theorem parts (es : List S60) (lo : Nat) (h : lo < es.length) : es = es.take lo ++ [rd_T60 es lo] ++ es.drop (lo + 1) := by
  rw [rds_get es lo h, List.append_assoc, List.singleton_append, ← List.drop_eq_getElem_cons h, List.take_append_drop]
set_option maxHeartbeats 4000000 in
set_option maxRecDepth 100000 in
theorem forgets_c (w : World) (g b : Nat) (es : List S60) (room span : Int) (key : ByteArray) (H : Tabs w g b es room span) (hS : Rises es) (hn : es.length ≤ 1000000) :
    Calls Try.prog 17 #[.pointer (some ⟨g, 0, none⟩), .string key] w fun e w' => e = .returned (.bool (hass es key)) ∧ Tabs w' g b (fgts es key) room span ∧ Fr (fun k => k = g ∨ k = b) w w' := by
  have HP := Aside0.mk (places_c w g b es room span key H hS hn)
  cases hh : hass es key with
  | false =>
    rw [hh] at HP
    have ha : fgts es key = es := by unfold fgts; rw [hh]; rfl
    rw [ha]
    have HT := Aside0.mk H
    clear H hS hn ha
    go_enter Try.func17, Try.ntmps17
    go_wp2_with (first | (go_at_call 43; refine (HP.out).mono ?_; rintro e_ w1 ⟨rfl, hb_⟩; have B1 := Aside0.mk hb_; clear hb_) | fail)
    go_ret
    exact ⟨rfl, HT.out.below B1.out, Fr.ofBelow B1.out⟩
  | true =>
    have hlt := hass_lt es key hh
    rw [hh] at HP
    have ha : fgts es key = es.take (lows es key) ++ es.drop (lows es key + 1) := by unfold fgts; rw [hh]; rfl
    rw [ha]
    obtain ⟨sl, hg, hs⟩ := H
    rcases hs with ⟨rfl, rfl, rfl⟩ | ⟨hne, c, rest, rfl, hr, hl, hc⟩
    · simp at hlt
    obtain ⟨lo, hlo⟩ : ∃ lo, lows es key = lo := ⟨_, rfl⟩
    rw [hlo] at hlt HP ⊢
    have hp := parts es lo hlt
    obtain ⟨A, hA⟩ : ∃ A, es.take lo = A := ⟨_, rfl⟩
    obtain ⟨C, hC⟩ : ∃ C, es.drop (lo + 1) = C := ⟨_, rfl⟩
    obtain ⟨x, hx⟩ : ∃ x, rd_T60 es lo = x := ⟨_, rfl⟩
    have hAl : A.length = lo := by rw [← hA, List.length_take]; omega
    have hCl : es.length = A.length + C.length + 1 := by rw [hp, hA, hC]; simp; omega
    rw [hA, hC, hx] at hp
    rw [hA, hC]
    rw [hp] at hr hl
    rw [hCl] at hn hg
    have hlc : A.length + C.length + 1 ≤ c := by
      rw [List.length_append, encss_len] at hl
      simp at hl
      omega
    have HD := Aside0.mk (fun W hW => deletes_c W b c A C x rest hW hlc hc (by omega))
    rw [hAl] at HD hg
    obtain ⟨q, hq⟩ : ∃ q, C.length = q := ⟨_, rfl⟩
    rw [hq] at HD hg
    have HG := Aside0.mk hg
    have HR := Aside0.mk hr
    have HN := Aside0.mk hne
    have HAQ := Aside0.mk (And.intro hAl hq)
    have HL := Aside0.mk (And.intro hl hc)
    have hw1 : wrap64 ((lo : Int) + 1) = ((lo + 1 : Nat) : Int) := by rw [wrap64_id (by unfold I64; omega)]; rfl
    clear hg hr hne hAl hq hp hA hC hx hl hc hS hlt ha hCl hlc hn
    go_enter Try.func17, Try.ntmps17
    go_upto_region 5 with (first | (go_at_call 43; refine (HP.out).mono ?_; rintro e_ w1 ⟨rfl, hb_⟩; have B1 := Aside0.mk hb_; clear hb_) | fail)
    have hcell : w1.cell? ⟨g, 0, none⟩ = some (.slice (some ⟨b, 0, none⟩) (lo + q + 1) c) := (blk_cell (blk_below HG.out B1.out) 0).trans rfl
    have HF1 := Aside0.mk (Fr.ofBelow (S := fun k => k = g ∨ k = b) B1.out)
    have HG1 := Aside0.mk (blk_below HG.out B1.out)
    have HR1 := Aside0.mk (blk_below HR.out B1.out)
    clear B1 HP HG HR
    go_wp2_with (first | (go_at_call 45; refine (HD.out _ HR1.out).mono ?_; rintro e_ w2 ⟨rfl, hr_, hf_⟩; have HR2 := Aside0.mk hr_; have HG2 := Aside0.mk ((hf_.block g (blk_lt HG1.out) (Ne.symm HN.out)).trans HG1.out); have HF2 := Aside0.mk (HF1.out.trans hf_ (fun j hj => .inl (.inr hj))); clear hr_ hf_) | ((with_reducible refine gate_store (t := 52) (p := 26) rfl ?_); refine store_part rfl 52 _ _ rfl rfl g 0 (.slice (some ⟨b, 0, none⟩) (lo + q) c) [.slice (some ⟨b, 0, none⟩) (lo + q) c] rfl rfl rfl (by simp [Value.oneCell']) 88 _ #[.slice (some ⟨b, 0, none⟩) (lo + q) c, .int .i64 room, .int .i64 span] HG2.out (by simp) (by kernel_rfl) (by rfl) ?_; have HG3 := Aside0.mk (setRow_heap _ g _ #[.slice (some ⟨b, 0, none⟩) (lo + q) c, .int .i64 room, .int .i64 span] _ _ HG2.out); have HR3 := Aside0.mk ((setRow_ne _ g b #[.slice (some ⟨b, 0, none⟩) (lo + q) c, .int .i64 room, .int .i64 span] HN.out).trans HR2.out); have HF3 := Aside0.mk (HF2.out.set g #[.slice (some ⟨b, 0, none⟩) (lo + q) c, .int .i64 room, .int .i64 span] (.inl (.inl rfl)))) | fail)
    go_ret
    obtain ⟨h1, h2⟩ := HAQ.out
    obtain ⟨h3, h4⟩ := HL.out
    have h5 : (A ++ C).length = lo + q := by rw [List.length_append, h1, h2]
    refine ⟨rfl, ⟨_, HG3.out, .inr ⟨HN.out, c, _, by rw [h5], HR3.out, ?_, h4⟩⟩, HF3.out⟩
    rw [← h3]
    simp only [encss_app, List.length_append, encss_len, List.length_cons, List.length_nil]
    omega
end Go.Proofs.Ytbifanoiailjoaa.MRatePlays

/- The oldest one; entries put out. -/
namespace Go.Proofs.Ytbifanoiailjoaa.MRatePlays
open Go.RowKit Go.Proofs.YtbifanoiailjoaaW.PrintWords Go.Proofs.YtbifanoiailjoaaW.PrintLast Go.Proofs.YtbifanoiailjoaaW.PrintMore Go.Proofs.Ytbifanoiailjoaa.Base
set_option linter.unusedVariables false
set_option linter.unusedSimpArgs false

set_option maxHeartbeats 4000000 in
set_option maxRecDepth 100000 in
theorem lens_c (w : World) (g b : Nat) (es : List S60) (room span : Int) (H : Tabs w g b es room span) :
    Calls Try.prog 18 #[.pointer (some ⟨g, 0, none⟩)] w fun e w' => e = .returned (.int .i64 es.length) ∧ Below w.heap.size w w' := by
  obtain ⟨sl, hg, hs⟩ := H
  obtain ⟨A, c, rfl⟩ : ∃ A c, sl = .slice A es.length c := by
    rcases hs with ⟨rfl, rfl, rfl⟩ | ⟨hne, c, rest, rfl, hr, hl, hc⟩
    · exact ⟨none, 0, rfl⟩
    · exact ⟨_, _, rfl⟩
  have hcell : w.cell? ⟨g, 0, none⟩ = some (.slice A es.length c) := (blk_cell hg 0).trans rfl
  go_enter Try.func18, Try.ntmps18
  go_wp2
  go_ret
  exact ⟨rfl, Below.refl _ _⟩
theorem mins_mem (m : S60) (r : List S60) : mins m r ∈ m :: r := by
  induction r generalizing m with
  | nil => exact List.mem_cons_self
  | cons x r ih =>
    have := ih (if olds x m < 0 then x else m)
    show mins (if olds x m < 0 then x else m) r ∈ _
    rcases List.mem_cons.1 this with h | h
    · rw [h]
      split <;> simp
    · exact List.mem_cons_of_mem _ (List.mem_cons_of_mem _ h)
set_option maxHeartbeats 4000000 in
set_option maxRecDepth 100000 in
theorem oldests_c (w : World) (g b : Nat) (e0 : S60) (er : List S60) (room span : Int) (H : Tabs w g b (e0 :: er) room span) (hn : (e0 :: er).length ≤ 1000000) :
    Calls Try.prog 64 #[.pointer (some ⟨g, 0, none⟩)] w fun e w' => e = .returned (.tuple #[.agg #[.string (mins e0 er).f0, .int .i64 (mins e0 er).f1, .bool (mins e0 er).f2], .bool true]) ∧ Below w.heap.size w w' := by
  have HL := Aside0.mk (fun W hW => lens_c W g b (e0 :: er) room span hW)
  have HT := Aside0.mk H
  have HB := Aside0.mk (Below.refl w.heap.size w)
  obtain ⟨sl, hg, hs⟩ := H
  rcases hs with ⟨rfl, h0, rfl⟩ | ⟨hne, c, rest, rfl, hr, hl, hc⟩
  · cases h0
  have hlc : (e0 :: er).length ≤ c := by
    rw [List.length_append, encss_len] at hl
    omega
  have HM := Aside0.mk (fun W hW => minfs_c W b c e0 er rest hW hlc hn)
  have HR := Aside0.mk hr
  have HG := Aside0.mk hg
  have hnz : (((e0 :: er).length : Int) == 0) = false := by simp; omega
  obtain ⟨m, hm⟩ : ∃ m, mins e0 er = m := ⟨_, rfl⟩
  obtain ⟨n, hn'⟩ : ∃ n, (e0 :: er).length = n := ⟨_, rfl⟩
  rw [hm, hn'] at HM
  rw [hn'] at HG HL hnz
  rw [hm]
  clear hl hc hr hg hlc hn hn' hm
  go_enter Try.func64, Try.ntmps64
  go_upto_region 1 with (first | ((with_reducible refine gate_dst (N := 2) rfl ?_); refine box_event ?hg (N := 2) ?hd (cs := #[.string ⟨#[]⟩, .int .i64 0, .bool false]) (t := 60) ?hr ?_; (case hd => rfl); (case hg => rfl); (case hr => go_simp; try rfl); intro gr hg_ wr1 hx_ hb_; have Gr := Aside0.mk hg_; have Hr := Aside0.mk hb_; have Br := Aside0.mk hx_; clear hg_ hx_ hb_; skip) | fail)
  have PR := Aside0.mk (PH.start HB.out Hr.out Gr.out Br.out)
  clear Gr Hr Br HB
  go_wp2_with (first | (go_at_call 18; refine (HL.out _ (HT.out.below PR.out.bel)).mono ?_; rintro e_ w1 ⟨rfl, hb_⟩; have PR := Aside0.mk (PR.out.below hb_); have hcell : w1.cell? ⟨g, 0, none⟩ = some (.slice (some ⟨b, 0, none⟩) n c) := (blk_cell (blk_below HG.out PR.out.bel) 0).trans rfl; clear hb_) | (go_at_call 73; refine (HM.out _ (blk_below HR.out PR.out.bel)).mono ?_; rintro e_ w2 ⟨rfl, hb_⟩; have PR := Aside0.mk (PR.out.below hb_); clear hb_) | ((with_reducible refine gate_store (t := 60) (p := 2) rfl ?_); refine wpList_store_row rfl 60 _ _ rfl gr #[.string m.f0, .int .i64 m.f1, .bool m.f2] rfl rfl 60 _ PR.out.row (by kernel_rfl) (by rfl) (by simp [Value.oneCell']) ?_) | fail)
  refine bodyPost_ret (results_cell_row_tmp rfl _ _ gr 60 #[.string m.f0, .int .i64 m.f1, .bool m.f2] (0, 0) _ _ rfl (PR.out.set _).row Try.underlying60 rfl (by kernel_rfl) rfl) rfl ?_
  exact ⟨rfl, (PR.out.set _).bel⟩
end Go.Proofs.Ytbifanoiailjoaa.MRatePlays

/- A table's entries as a list: what is put out, and what stays. -/
namespace Go.Proofs.Ytbifanoiailjoaa.MRatePlays
open Go.RowKit Go.Proofs.YtbifanoiailjoaaW.PrintWords Go.Proofs.YtbifanoiailjoaaW.PrintLast Go.Proofs.YtbifanoiailjoaaW.PrintMore Go.Proofs.Ytbifanoiailjoaa.Base
set_option linter.unusedVariables false
set_option linter.unusedSimpArgs false

theorem cps_ge (a b : ByteArray) : 0 ≤ cps a b ↔ lts a b = false := by
  have := cps_neg a b
  cases h : lts a b with
  | true => rw [h] at this; simp at this; simp; omega
  | false => rw [h] at this; simp at this; simp; omega
theorem hass_at (es : List S60) (h : Rises es) (m : Nat) (hm : m < es.length) : lows es es[m].f0 = m ∧ hass es es[m].f0 = true := by
  have hl : lows es es[m].f0 = m := by
    refine lows_is _ es m (by omega) (fun t ht => ?_) (fun t h1 h2 => ?_)
    · rw [rds_get es t (by omega), cps_neg]
      exact List.pairwise_iff_getElem.1 h t m (by omega) hm ht
    · rw [rds_get es t h2, cps_ge]
      rcases Nat.lt_or_ge m t with q | q
      · exact lts_asym _ _ (List.pairwise_iff_getElem.1 h m t hm h2 q)
      · obtain rfl : t = m := by omega
        exact lts_irr _
  refine ⟨hl, ?_⟩
  rw [hass_eq es _ m hl, rds_get es m hm]
  have : cps es[m].f0 es[m].f0 = 0 := (cps_zero _ _).2 rfl
  simp [hm, this]
theorem hass_mem (es : List S60) (h : Rises es) (x : S60) (hx : x ∈ es) : hass es x.f0 = true := by
  obtain ⟨m, hm, rfl⟩ := List.getElem_of_mem hx
  exact (hass_at es h m hm).2
theorem fgts_sub (es : List S60) (key : ByteArray) : (fgts es key).Sublist es := by
  unfold fgts
  split
  · rename_i h
    have hp := parts es _ (hass_lt es key h)
    have : (es.take (lows es key) ++ es.drop (lows es key + 1)).Sublist (es.take (lows es key) ++ [rd_T60 es (lows es key)] ++ es.drop (lows es key + 1)) :=
      List.Sublist.append (List.sublist_append_left _ _) (List.Sublist.refl _)
    rwa [← hp] at this
  · exact List.Sublist.refl _
theorem fgts_rise (es : List S60) (key : ByteArray) (h : Rises es) : Rises (fgts es key) := List.Pairwise.sublist (fgts_sub es key) h
theorem fgts_len (es : List S60) (key : ByteArray) (h : hass es key = true) : (fgts es key).length + 1 = es.length := by
  have hl := hass_lt es key h
  unfold fgts
  rw [if_pos h, List.length_append, List.length_take, List.length_drop]
  omega
def cuts : Nat → List S60 → List S60
  | 0, es => es
  | _ + 1, [] => []
  | n + 1, e0 :: er => cuts n (fgts (e0 :: er) (mins e0 er).f0)
theorem cuts_rise : ∀ (n : Nat) (es : List S60), Rises es → Rises (cuts n es)
  | 0, es, h => h
  | _ + 1, [], h => h
  | n + 1, e0 :: er, h => cuts_rise n _ (fgts_rise _ _ h)
theorem cuts_sub : ∀ (n : Nat) (es : List S60), (cuts n es).Sublist es
  | 0, es => List.Sublist.refl _
  | _ + 1, [] => List.Sublist.refl _
  | n + 1, e0 :: er => (cuts_sub n _).trans (fgts_sub _ _)
set_option maxHeartbeats 4000000 in
set_option maxRecDepth 100000 in
theorem trims_c (w : World) (g b : Nat) (es : List S60) (room span : Int) (most : Nat) (H : Tabs w g b es room span) (hS : Rises es) (hn : es.length ≤ 1000000) :
    Calls Try.prog 44 #[.pointer (some ⟨g, 0, none⟩), .int .i64 most] w fun e w' => e = .returned (.tuple #[]) ∧ Tabs w' g b (cuts (es.length - most) es) room span ∧ Fr (fun k => k = g ∨ k = b) w w' := by
  have HT := Aside0.mk H
  have HS := Aside0.mk hS
  have HN := Aside0.mk hn
  clear H hS hn
  go_enter Try.func44, Try.ntmps44
  go_wp2
  go_loopg [] es.length (fun kx wr => ∃ es1 : List S60, es1.length ≤ kx ∧ Aside0 (Tabs wr g b es1 room span) ∧ Aside0 (Rises es1) ∧ Aside0 (es1.length ≤ 1000000) ∧ Aside0 (cuts (es1.length - most) es1 = cuts (es.length - most) es) ∧ Aside0 (Fr (fun k => k = g ∨ k = b) w wr))
  case atStart => exact ⟨es, Nat.le_refl _, HT, HS, HN, ⟨rfl⟩, ⟨Fr.refl _ _⟩⟩
  case round =>
    obtain ⟨es1, hk, T1, S1, N1, C1, F1⟩ := hrel
    obtain ⟨sl, hg, hs⟩ := T1.out
    obtain ⟨A, c, rfl⟩ : ∃ A c, sl = .slice A es1.length c := by
      rcases hs with ⟨rfl, h0, _⟩ | ⟨hne, c, rest, rfl, hr, hl, hc⟩
      · subst h0
        exact ⟨none, 0, rfl⟩
      · exact ⟨_, _, rfl⟩
    have hcell : wr.cell? ⟨g, 0, none⟩ = some (.slice A es1.length c) := (blk_cell hg 0).trans rfl
    clear hs hg
    by_cases hlt : most < es1.length
    · have hlti : (most : Int) < (es1.length : Int) := by omega
      obtain ⟨e0, er, he⟩ : ∃ e0 er, es1 = e0 :: er := by
        cases es1 with
        | nil => simp at hlt
        | cons x r => exact ⟨x, r, rfl⟩
      have HO := Aside0.mk (fun W (hW : Tabs W g b es1 room span) => oldests_c W g b e0 er room span (he ▸ hW) (he ▸ N1.out))
      have hm : hass es1 (mins e0 er).f0 = true := hass_mem es1 S1.out _ (he ▸ mins_mem e0 er)
      have hcut : cuts (es1.length - most) es1 = cuts ((fgts es1 (mins e0 er).f0).length - most) (fgts es1 (mins e0 er).f0) := by
        have h1 := fgts_len es1 _ hm
        obtain ⟨d, hd⟩ : ∃ d, es1.length - most = d + 1 := ⟨es1.length - most - 1, by omega⟩
        rw [hd, show (fgts es1 (mins e0 er).f0).length - most = d by omega, he]
        rfl
      obtain ⟨m, hmm⟩ : ∃ m, mins e0 er = m := ⟨_, rfl⟩
      rw [hmm] at HO hm hcut
      have HM := Aside0.mk hm
      have HC := Aside0.mk hcut
      have HLT := Aside0.mk hlt
      have HFO := Aside0.mk (fun W (hW : Tabs W g b es1 room span) => forgets_c W g b es1 room span m.f0 hW S1.out N1.out)
      have HB := Aside0.mk (Below.refl wr.heap.size wr)
      clear he hmm hm hcut hlt
      go_upto_region 2 with (first | (go_at_call 64; refine (HO.out _ T1.out).mono ?_; rintro e_ w1 ⟨rfl, hb_⟩; have HB := Aside0.mk hb_; clear hb_) | ((with_reducible refine gate_dst (N := 4) rfl ?_); refine box_event ?hg (N := 4) ?hd (cs := #[.string ⟨#[]⟩, .int .i64 0, .bool false]) (t := 60) ?hr ?_; (case hd => rfl); (case hg => rfl); (case hr => go_simp; try rfl); intro gm hg_ wm hx_ hb_; have Gm := Aside0.mk hg_; have Hm := Aside0.mk hb_; have Bm := Aside0.mk hx_; clear hg_ hx_ hb_; skip) | ((with_reducible refine gate_store (t := 60) (p := 4) rfl ?_); refine wpList_store_row rfl 60 _ _ rfl gm #[.string m.f0, .int .i64 m.f1, .bool m.f2] rfl rfl 60 _ Bm.out (by kernel_rfl) (by rfl) (arrs_one m) ?_) | fail)
      have PM := Aside0.mk ((PH.start HB.out Hm.out Gm.out Bm.out).set #[.string m.f0, .int .i64 m.f1, .bool m.f2])
      generalize wm.setRow gm #[.string m.f0, .int .i64 m.f1, .bool m.f2] = w2 at PM ⊢
      have hk0 : w2.cell? ⟨gm, 0, none⟩ = some (.string m.f0) := (blk_cell PM.out.row 0).trans rfl
      clear hcell
      go_wp2_with (first | (go_at_call 17; refine (HFO.out _ (T1.out.below PM.out.bel)).mono ?_; rintro e_ w3 ⟨rfl, ht_, hf_⟩; have T3 := Aside0.mk ht_; have F3 := Aside0.mk ((F1.out.below PM.out.bel).trans hf_ (fun j hj => .inl hj)); clear ht_ hf_) | fail)
      go_roundg ((fgts es1 m.f0).length)
      case measure => have := fgts_len es1 m.f0 HM.out; omega
      case rel => exact ⟨_, Nat.le_refl _, T3, ⟨fgts_rise _ _ S1.out⟩, ⟨by have := fgts_len es1 m.f0 HM.out; have := N1.out; omega⟩, ⟨HC.out ▸ C1.out⟩, F3⟩
    · have hlti : ¬ (most : Int) < (es1.length : Int) := by omega
      have he : cuts (es.length - most) es = es1 := by
        rw [← C1.out, show es1.length - most = 0 by omega]
        rfl
      have HE := Aside0.mk he
      clear he
      go_wp2
      go_end0
      exact ⟨rfl, by rw [HE.out]; exact T1.out, F1.out⟩
end Go.Proofs.Ytbifanoiailjoaa.MRatePlays

/- An entry put in. -/
namespace Go.Proofs.Ytbifanoiailjoaa.MRatePlays
open Go.RowKit Go.Proofs.YtbifanoiailjoaaW.PrintWords Go.Proofs.YtbifanoiailjoaaW.PrintLast Go.Proofs.YtbifanoiailjoaaW.PrintMore Go.Proofs.Ytbifanoiailjoaa.Base
set_option linter.unusedVariables false
set_option linter.unusedSimpArgs false

theorem zcls (k : Nat) : (Builtin.zeroCells (Value.agg #[.string ⟨#[]⟩, .int .i64 0, .bool false]).cells k).toList.length = k * 3 := by
  simp [Builtin.zeroCells, Value.cells]
theorem encss_x (x : S60) : encss [x] = encs x := by simp [encss]
/-- What a put-in leaves. -/
def Puts (w : World) (b : Nat) (es : List S60) (e : Ending) (w' : World) : Prop :=
  ∃ (b' c' : Nat) (rest' : List Value), e = .returned (.slice (some ⟨b', 0, none⟩) es.length c') ∧ Rows w' b' es rest' ∧ (encss es ++ rest').length = c' * 3 ∧ c' ≤ 9223372036854775807 ∧ (b' = b ∨ w.heap.size ≤ b') ∧ Fr (fun k => k = b) w w'
theorem srcs (w : World) (gv : Nat) (x : S60) (hv : w.heap[gv]? = some (.cells (encs x).toArray 60 (0, 0))) : Src Try.prog 3 52 (.slice (some ⟨gv, 0, none⟩) 1 1) 1 (encs x) w :=
  Src.ofSlice w Try.underlying52 ⟨gv, 0, none⟩ 1 1 (encs x) rfl (fun j u hj => by rw [Addr.add_lit, blk_cell hv, ← hj]; simp) (fun v hv => List.all_eq_true.1 (encs_one x) v hv)
theorem grows (w : World) (base : Option Addr) (c b gv : Nat) (es : List S60) (x : S60) (rest : List Value) (hb : (base = none ∧ es = [] ∧ c = 0) ∨ (base = some ⟨b, 0, none⟩ ∧ Rows w b es rest ∧ es.length = c))
    (hn : es.length ≤ 1000000) (hv : w.heap[gv]? = some (.cells (encs x).toArray 60 (0, 0))) :
    ∃ (G : Nat) (rest' : List Value), (∀ ty, (Builtin.append_ #[52, 52] ty #[.slice base es.length c, .slice (some ⟨gv, 0, none⟩) 1 1]).run Try.prog w = .ok (.slice (some ⟨w.heap.size, 0, none⟩) (es.length + 1) G) (w.drew.alloc (.cells (encss (es ++ [x]) ++ rest').toArray 60))) ∧ (encss (es ++ [x]) ++ rest').length = G * 3 ∧ G ≤ 9223372036854775807 := by
  obtain ⟨i, hi, hz, hs, hby⟩ := infos
  have hc : es.length = c := by
    rcases hb with ⟨_, rfl, rfl⟩ | ⟨_, _, h⟩
    · rfl
    · exact h
  have hold : (Builtin.firstCells 3 es.length (.slice base es.length c)).run Try.prog w.drew = .ok (encss es).toArray w.drew := by
    rcases hb with ⟨rfl, rfl, rfl⟩ | ⟨rfl, hr, _⟩
    · exact run_firstCells_none w.drew 3 0 0 0
    · refine run_firstCells_some w.drew 3 es.length _ es.length c (encss es) (by rw [encss_len]; omega) (fun j v hj => ?_)
      exact rows_src (W := w.drew) (show Rows w.drew b es rest from hr) [] es [] (by simp) 0 (by simp) j v hj
  have hG1 := grownCap_ge w (es.length + 1) c 60
  have hG2 := grownCap_le_maxLen w (es.length + 1) c 60 (by unfold maxLen; omega)
  refine ⟨grownCap w (es.length + 1) c 60, (Builtin.zeroCells (Value.agg #[.string ⟨#[]⟩, .int .i64 0, .bool false]).cells (grownCap w (es.length + 1) c 60 - (es.length + 1))).toList, fun ty => ?_, ?_, by unfold maxLen at hG2; omega⟩
  · have h := run_append_grow_src (P := Try.prog) w 52 52 ty 60 i _ Try.underlying52 hi hz base es.length c (encss es) (by rw [hs]; exact hold) _ 1 (encs x) (by rw [hs]; exact srcs w gv x hv) (by omega) (by omega) (by rw [hby]; exact growslice_fits (by omega) (by omega))
    have he : (encss es ++ encs x).toArray ++ Builtin.zeroCells (Value.agg #[.string ⟨#[]⟩, .int .i64 0, .bool false]).cells (grownCap w (es.length + 1) c 60 - (es.length + 1)) = (encss (es ++ [x]) ++ (Builtin.zeroCells (Value.agg #[.string ⟨#[]⟩, .int .i64 0, .bool false]).cells (grownCap w (es.length + 1) c 60 - (es.length + 1))).toList).toArray := by
      rw [encss_app, encss_x]
      apply Array.ext'
      rw [Array.toList_append]
    rw [h, he]
  · rw [List.length_append, encss_len, zcls, List.length_append, List.length_singleton]
    omega
set_option maxHeartbeats 4000000 in
set_option maxRecDepth 100000 in
theorem insends_grow (w : World) (base : Option Addr) (c b gv : Nat) (es : List S60) (x : S60) (rest : List Value) (hb : (base = none ∧ es = [] ∧ c = 0) ∨ (base = some ⟨b, 0, none⟩ ∧ Rows w b es rest ∧ es.length = c))
    (hn : es.length ≤ 1000000) (hv : w.heap[gv]? = some (.cells (encs x).toArray 60 (0, 0))) :
    Calls Try.prog 60 #[.slice base es.length c, .int .i64 es.length, .slice (some ⟨gv, 0, none⟩) 1 1] w (Puts w b (es ++ [x])) := by
  obtain ⟨G, rest', hrun, hl, hG⟩ := grows w base c b gv es x rest hb hn hv
  have HL := Aside0.mk (And.intro hl hG)
  have hc : es.length = c := by
    rcases hb with ⟨_, rfl, rfl⟩ | ⟨_, _, h⟩
    · rfl
    · exact h
  have hc0 : base = none ∨ base = some ⟨b, 0, none⟩ := by
    rcases hb with ⟨h, _⟩ | ⟨h, _⟩
    · exact .inl h
    · exact .inr h
  subst hc
  have hfin : ∀ (W : World), W = w.drew.alloc (.cells (encss (es ++ [x]) ++ rest').toArray 60) → Puts w b (es ++ [x]) (.returned (.slice (some ⟨w.heap.size, 0, none⟩) (es.length + 1) G)) W := by
    rintro W rfl
    refine ⟨w.heap.size, G, rest', by simp, ?_, hl, hG, .inr (Nat.le_refl _), (Fr.refl _ w).drew.alloc _⟩
    exact blk_new _ _
  have HF := Aside0.mk hfin
  clear hfin hl hG hb hv
  have hb0 : (0 : Int) ≤ (es.length : Int) := by omega
  rcases hc0 with rfl | rfl
  · go_enter Try.func60, Try.ntmps60
    go_wp2_with (first | ((with_reducible refine gate_dst (N := 25) rfl ?_); refine Lib.wpList_append_run _ rfl _ _ 52 52 rfl _ _ rfl rfl _ _ (hrun _) ?_; have hq_ := HF.out _ rfl) | fail)
    go_ret
    exact hq_
  · have hcase : (if es.length = es.length then some (⟨b, 0, none⟩ : Addr) else some ⟨b, es.length * 3, none⟩) = some ⟨b, 0, none⟩ := if_pos rfl
    go_enter Try.func60, Try.ntmps60
    go_wp2_with (first | ((with_reducible refine gate_dst (N := 25) rfl ?_); refine Lib.wpList_append_run _ rfl _ _ 52 52 rfl _ _ rfl rfl _ _ (hrun _) ?_; have hq_ := HF.out _ rfl) | fail)
    go_ret
    exact hq_
theorem vcells {W : World} {gv : Nat} {x : S60} (hv : W.heap[gv]? = some (.cells (encs x).toArray 60 (0, 0))) (j : Nat) (u : Value) (hj : (encs x)[j]? = some u) : W.cell? ((⟨gv, 0, none⟩ : Addr).add j) = some u := by
  rw [Addr.add_lit, blk_cell hv, ← hj]
  simp
set_option maxHeartbeats 4000000 in
set_option maxRecDepth 100000 in
theorem insends_room (w : World) (c b gv : Nat) (es : List S60) (x : S60) (rest : List Value) (hr : Rows w b es rest) (hl : (encss es ++ rest).length = c * 3) (hroom : es.length + 1 ≤ c) (hcm : c ≤ 9223372036854775807)
    (hv : w.heap[gv]? = some (.cells (encs x).toArray 60 (0, 0))) :
    Calls Try.prog 60 #[.slice (some ⟨b, 0, none⟩) es.length c, .int .i64 es.length, .slice (some ⟨gv, 0, none⟩) 1 1] w (Puts w b (es ++ [x])) := by
  obtain ⟨i, hi, hz, hs, hby⟩ := infos
  obtain ⟨B, C, hBC, hB⟩ : ∃ (B C : List Value), rest = B ++ C ∧ B.length = 3 := ⟨rest.take 3, rest.drop 3, (List.take_append_drop _ _).symm, by
    rw [List.length_append, encss_len] at hl
    rw [List.length_take]
    omega⟩
  have hrun : ∀ ty, (Builtin.append_ #[52, 52] ty #[.slice (some ⟨b, 0, none⟩) es.length c, .slice (some ⟨gv, 0, none⟩) 1 1]).run Try.prog w = .ok (.slice (some ⟨b, 0, none⟩) (es.length + 1) c) (w.setRow b (encss (es ++ [x]) ++ C).toArray) := fun ty => by
    have h := run_append_mid w 52 ty 60 i Try.underlying52 hi b es.length c ⟨gv, 0, none⟩ 1 1 (encs x) (by rw [hs]; rfl) (fun j u hj => vcells hv j u hj) (fun v hv => List.all_eq_true.1 (encs_one x) v hv) hroom 60 (encss es) B C (by rw [hr, hBC, List.append_assoc]) (by rw [hB]; rfl) (by rw [encss_len, hs]; omega)
    rw [h, encss_app, encss_x]
  have hl2 : (encss (es ++ [x]) ++ C).length = c * 3 := by
    rw [← hl, hBC]
    simp only [List.length_append, encss_len, hB, List.length_singleton]
    omega
  have hfin : ∀ (W : World), W = w.setRow b (encss (es ++ [x]) ++ C).toArray → Puts w b (es ++ [x]) (.returned (.slice (some ⟨b, 0, none⟩) (es.length + 1) c)) W := by
    rintro W rfl
    refine ⟨b, c, C, by simp, setRow_heap w b _ _ _ _ hr, hl2, hcm, .inl rfl, (Fr.refl _ w).set b _ (.inl rfl)⟩
  have HF := Aside0.mk hfin
  have hb0 : (0 : Int) ≤ (es.length : Int) := by omega
  obtain ⟨ad, had⟩ : ∃ ad : Option Addr, (if c = es.length then some (⟨b, 0, none⟩ : Addr) else some ⟨b, es.length * 3, none⟩) = ad := ⟨_, rfl⟩
  have hcn : es.length ≤ c := by omega
  clear hfin hl hv hr hl2 hBC hB hi hz hs hby
  go_enter Try.func60, Try.ntmps60
  go_wp2_with (first | ((with_reducible refine gate_dst (N := 25) rfl ?_); refine Lib.wpList_append_run _ rfl _ _ 52 52 rfl _ _ rfl rfl _ _ (hrun _) ?_; have hq_ := HF.out _ rfl) | fail)
  go_ret
  exact hq_
theorem sizes (w : World) : (Go.sizeOf 60).run Try.prog w = .ok 3 w := by
  obtain ⟨i, hi, hz, hs, hby⟩ := infos
  simp [Go.sizeOf, typeInfo, hi, hs]
theorem overlapss (W : World) (gv b o lb cb : Nat) (cs cb' : Array Value) (hne : gv ≠ b) (hv : W.heap[gv]? = some (.cells cs 60 (0, 0))) (hb : W.heap[b]? = some (.cells cb' 60 (0, 0))) (hs : cb'.size ≠ 0) :
    (callFunc 70 #[.slice (some ⟨gv, 0, none⟩) 1 1, .slice (some ⟨b, o, none⟩) lb cb]).run Try.prog W = .ok (.value (.bool false)) W := by
  rw [run_callFunc_extern Try.func70 (by kernel_rfl) (by kernel_rfl) (by kernel_rfl) (e := Extern.SlicesOverlaps.overlaps #[52, 52] #[4]) (by kernel_rfl),
    Lib.run_overlaps_apart W 52 4 60 Try.underlying52 3 sizes ⟨gv, 0, none⟩ ⟨b, o, none⟩ 1 1 lb cb hne 60 60 cs.size cb'.size (by simp [World.shape?, hv]) (by simp [World.shape?, hb]) hs (blk_frozen hv 0) (blk_frozen hv _)]
  rfl
set_option maxHeartbeats 4000000 in
set_option maxRecDepth 100000 in
theorem insmids_room (w : World) (c b gv : Nat) (A C1 : List S60) (c0 x : S60) (rest : List Value) (hne : gv ≠ b) (hr : Rows w b (A ++ c0 :: C1) rest) (hl : (encss (A ++ c0 :: C1) ++ rest).length = c * 3) (hroom : A.length + C1.length + 1 + 1 ≤ c) (hcm : c ≤ 9223372036854775807)
    (hv : w.heap[gv]? = some (.cells (encs x).toArray 60 (0, 0))) (hn : A.length + C1.length ≤ 1000000) :
    Calls Try.prog 60 #[.slice (some ⟨b, 0, none⟩) (A.length + C1.length + 1) c, .int .i64 A.length, .slice (some ⟨gv, 0, none⟩) 1 1] w (Puts w b (A ++ x :: c0 :: C1)) := by
  obtain ⟨i, hi, hz, hs, hby⟩ := infos
  obtain ⟨B, D, hBD, hB⟩ : ∃ (B D : List Value), rest = B ++ D ∧ B.length = 3 := ⟨rest.take 3, rest.drop 3, (List.take_append_drop _ _).symm, by
    rw [List.length_append, encss_len] at hl
    rw [List.length_take]
    simp at hl
    omega⟩
  have e0 : ∀ r : List S60, encss (c0 :: r) = encs c0 ++ encss r := fun r => rfl
  have hcp1 : ∀ W : World, Rows W b (A ++ c0 :: C1) rest → ∀ ty dl dc sl sc, Nat.min sl dl = C1.length + 1 → (Builtin.copy_ #[52, 52] ty #[.slice (some ⟨b, (A.length + 1) * 3, none⟩) dl dc, .slice (some ⟨b, A.length * 3, none⟩) sl sc]).run Try.prog W =
      .ok (goInt (C1.length + 1)) (W.setRow b (encss A ++ encs c0 ++ encss (c0 :: C1) ++ D).toArray) := fun W hW ty dl dc sl sc hm =>
    run_copy_mid W 52 52 ty 60 b ((A.length + 1) * 3) dl dc ⟨b, A.length * 3, none⟩ sl sc (encss (c0 :: C1)) i Try.underlying52 hi (C1.length + 1) hm.symm (by rw [encss_len, hs]; simp; omega) (fun j u hj => rows_src hW A (c0 :: C1) [] (by simp) _ rfl j u hj) (encss_one _) 60 (encss A ++ encs c0) (encss C1 ++ B) D
      (by rw [hW, encss_app, e0, hBD]; simp) (by rw [encss_len, List.length_append, encss_len, hB]; simp; omega) (by rw [List.length_append, encss_len]; simp [encs]; omega)
  have hcp2 : ∀ W : World, W.heap[b]? = some (.cells (encss A ++ encs c0 ++ encss (c0 :: C1) ++ D).toArray 60 (0, 0)) → W.heap[gv]? = some (.cells (encs x).toArray 60 (0, 0)) → ∀ ty dl dc, 1 ≤ dl → (Builtin.copy_ #[52, 52] ty #[.slice (some ⟨b, A.length * 3, none⟩) dl dc, .slice (some ⟨gv, 0, none⟩) 1 1]).run Try.prog W =
      .ok (goInt 1) (W.setRow b (encss A ++ encs x ++ (encss (c0 :: C1) ++ D)).toArray) := fun W hW hV ty dl dc hm =>
    run_copy_mid W 52 52 ty 60 b (A.length * 3) dl dc ⟨gv, 0, none⟩ 1 1 (encs x) i Try.underlying52 hi 1 (by simp only [Nat.min_def]; split <;> omega) (by rw [hs]; rfl) (fun j u hj => vcells hV j u hj) (fun v hv => List.all_eq_true.1 (encs_one x) v hv) 60 (encss A) (encs c0) (encss (c0 :: C1) ++ D)
      (by rw [hW]; simp) rfl (by rw [encss_len]; omega)
  have hcell : ∀ W : World, Rows W b (A ++ c0 :: C1) rest → (encss (A ++ c0 :: C1) ++ rest).toArray.size ≠ 0 := fun W hW => by
    rw [List.size_toArray, hl]
    omega
  have hov : ∀ lb cb, (callFunc 70 #[.slice (some ⟨gv, 0, none⟩) 1 1, .slice (some ⟨b, (A.length + 1) * 3, none⟩) lb cb]).run Try.prog w = .ok (.value (.bool false)) w := fun lb cb =>
    overlapss w gv b _ lb cb _ _ hne hv hr (hcell w hr)
  have hl2 : (encss (A ++ x :: c0 :: C1) ++ D).length = c * 3 := by
    rw [← hl, hBD]
    simp only [List.length_append, encss_len, hB, List.length_cons]
    omega
  have hfin : ∀ (W : World), Fr (fun k => k = b) w W → (∃ cs, W.heap[b]? = some (.cells cs 60 (0, 0))) → Puts w b (A ++ x :: c0 :: C1) (.returned (.slice (some ⟨b, 0, none⟩) (A.length + C1.length + 1 + 1) c)) (W.setRow b (encss A ++ encs x ++ (encss (c0 :: C1) ++ D)).toArray) := by
    rintro W hF ⟨cs, hcs⟩
    refine ⟨b, c, D, ?_, ?_, hl2, hcm, .inl rfl, hF.set b _ (.inl rfl)⟩
    · rw [show (A ++ x :: c0 :: C1).length = A.length + C1.length + 1 + 1 by simp; omega]
    · show _ = _
      rw [setRow_heap W b _ _ _ _ hcs, encss_app]
      simp [encss]
  have HF := Aside0.mk hfin
  have HR := Aside0.mk hr
  have HV := Aside0.mk hv
  have HNE := Aside0.mk hne
  obtain ⟨p, hp⟩ : ∃ p, A.length = p := ⟨_, rfl⟩
  obtain ⟨q, hq⟩ : ∃ q, C1.length = q := ⟨_, rfl⟩
  rw [hp, hq] at hroom hn HF hcp1
  rw [hp] at hcp2 hov
  rw [hp, hq]
  have HC1 := Aside0.mk hcp1
  have HC2 := Aside0.mk hcp2
  have hb0 : (0 : Int) ≤ (p : Int) := by omega
  have hb1 : (p : Int) ≤ (p : Int) + (q : Int) + 1 := by omega
  have hb2 : ¬ ((p : Int) = (p : Int) + (q : Int) + 1) := by omega
  have hb3 : ¬ ((c : Int) < (p : Int) + (q : Int) + 1 + 1) := by omega
  have hb4 : ¬ (c = p + 1) := by omega
  have hb5 : ¬ (c = p) := by omega
  clear hfin hr hv hne hcp1 hcp2 hl hl2 hcell hBD hB hi hz hs hby hp hq e0
  go_enter Try.func60, Try.ntmps60
  go_wp2_with (simp only [hov])
  have hb6 : (p : Int) ≤ (p : Int) + (q : Int) + 1 + 1 := by omega
  have hb7 : (p : Int) + 1 ≤ (p : Int) + (q : Int) + 1 + 1 := by omega
  have hb8 : (0 : Int) ≤ (p : Int) + 1 := by omega
  have hw1 : IntKind.i64.wrap ((p : Int) + 1) = (p : Int) + 1 := by rw [IntKind.wrap_i64]; omega
  have htn : ((p : Int) + 1).toNat = p + 1 := by omega
  have hcp := HC1.out w.drew HR.out 3 (p + q + 1 - p) (c - (p + 1)) (p + q + 1 + 1 - p) (c - p) (by show min _ _ = _; omega)
  go_region_law (refine step_copy_runI rfl _ _ 52 52 rfl (.slice (some ⟨b, (p + 1) * 3, none⟩) (p + q + 1 - p) (c - (p + 1))) (.slice (some ⟨b, p * 3, none⟩) (p + q + 1 + 1 - p) (c - p)) (by simp [Act.eval, Act.put]) (by simp [Act.eval, Act.put]) hcp ?_)
  have hR1 := setRow_heap w.drew b _ (encss A ++ (encs c0 ++ (encss (c0 :: C1) ++ D))).toArray _ _ HR.out
  have hF1 : Fr (fun k => k = b) w (w.drew.setRow b (encss A ++ (encs c0 ++ (encss (c0 :: C1) ++ D))).toArray) := (Fr.refl _ w).drew.set b _ (.inl rfl)
  have hV1 := (setRow_ne w.drew b gv (encss A ++ (encs c0 ++ (encss (c0 :: C1) ++ D))).toArray HNE.out).trans HV.out
  clear hcp hov
  generalize w.drew.setRow b (encss A ++ (encs c0 ++ (encss (c0 :: C1) ++ D))).toArray = W1 at hR1 hF1 hV1 ⊢
  have hcp := HC2.out W1 (by rw [hR1]; simp only [List.append_assoc]) hV1 3 (p + q + 1 + 1 - p) (c - p) (by omega)
  have hq0 := HF.out W1 hF1 ⟨_, hR1⟩
  rw [List.append_assoc (encss A)] at hq0
  have hq := Aside0.mk hq0
  clear hq0
  clear hR1 hF1 hV1
  go_wp2_with (first | ((with_reducible refine gate_dst (N := 82) rfl ?_); refine wpList_copy_runI _ rfl _ _ 52 52 rfl _ _ rfl rfl hcp ?_) | fail)
  go_ret
  exact hq.out
set_option maxHeartbeats 4000000 in
set_option maxRecDepth 100000 in
theorem insmids_grow (w : World) (c b gv : Nat) (A C1 : List S60) (c0 x : S60) (rest : List Value) (hr : Rows w b (A ++ c0 :: C1) rest) (hc : A.length + C1.length + 1 = c)
    (hv : w.heap[gv]? = some (.cells (encs x).toArray 60 (0, 0))) (hn : A.length + C1.length ≤ 1000000) :
    Calls Try.prog 60 #[.slice (some ⟨b, 0, none⟩) (A.length + C1.length + 1) c, .int .i64 A.length, .slice (some ⟨gv, 0, none⟩) 1 1] w (Puts w b (A ++ x :: c0 :: C1)) := by
  obtain ⟨i, hi, hz, hs, hby⟩ := infos
  have e0 : ∀ r : List S60, encss (c0 :: r) = encs c0 ++ encss r := fun r => rfl
  have hold : (Builtin.firstCells 3 A.length (.slice (some ⟨b, 0, none⟩) A.length c)).run Try.prog w.drew = .ok (encss A).toArray w.drew := by
    refine run_firstCells_some w.drew 3 A.length _ A.length c (encss A) (by rw [encss_len]; omega) (fun j v hj => ?_)
    exact rows_src (W := w.drew) (show Rows w.drew b (A ++ c0 :: C1) rest from hr) [] A (c0 :: C1) (by simp) 0 (by simp) j v hj
  obtain ⟨G, hG⟩ : ∃ G, grownCap w (A.length + (C1.length + 1 + 1)) c 60 = G := ⟨_, rfl⟩
  have hG1 := grownCap_ge w (A.length + (C1.length + 1 + 1)) c 60
  have hG2 := grownCap_le_maxLen w (A.length + (C1.length + 1 + 1)) c 60 (by unfold maxLen; omega)
  rw [hG] at hG1 hG2
  have hrun0 : ∀ ty, (Builtin.append_ #[52, 3] ty #[.slice (some ⟨b, 0, none⟩) A.length c, .int .i64 ((C1.length + 1 + 1 : Nat) : Int)]).run Try.prog w = _ := fun ty => Lib.run_append_grow_zeros w 52 3 ty 60 i _ .i64 .i64 Try.underlying52 Try.underlying3 hi hz (some ⟨b, 0, none⟩) A.length c (encss A) (by rw [hs]; exact hold) (C1.length + 1 + 1) (by omega) (by omega) (by omega) (by omega) (by rw [hby]; omega) (by rw [hby]; exact growslice_fits (by omega) (by omega))
  obtain ⟨Z, hZ, hZl⟩ : ∃ Z : List Value, (encss A).toArray ++ Builtin.zeroCells (Value.agg #[.string ⟨#[]⟩, .int .i64 0, .bool false]).cells (C1.length + 1 + 1) ++ Builtin.zeroCells (Value.agg #[.string ⟨#[]⟩, .int .i64 0, .bool false]).cells (G - (A.length + (C1.length + 1 + 1))) = (encss A ++ Z).toArray ∧ Z.length = 3 * (G - A.length) := by
    refine ⟨(Builtin.zeroCells (Value.agg #[.string ⟨#[]⟩, .int .i64 0, .bool false]).cells (C1.length + 1 + 1)).toList ++ (Builtin.zeroCells (Value.agg #[.string ⟨#[]⟩, .int .i64 0, .bool false]).cells (G - (A.length + (C1.length + 1 + 1)))).toList, ?_, ?_⟩
    · apply Array.ext'
      simp only [Array.toList_append, List.append_assoc]
    · rw [List.length_append, zcls, zcls]
      omega
  rw [hG] at hrun0
  have hrun : ∀ ty, (Builtin.append_ #[52, 3] ty #[.slice (some ⟨b, 0, none⟩) A.length c, .int .i64 ((C1.length + 1 + 1 : Nat) : Int)]).run Try.prog w = .ok (.slice (some ⟨w.heap.size, 0, none⟩) (A.length + (C1.length + 1 + 1)) G) (w.drew.alloc (.cells (encss A ++ Z).toArray 60)) := fun ty => by rw [hrun0 ty, ← hZ]
  clear hrun0 hZ hold hG
  obtain ⟨B1, B2, D, rfl, hB1, hB2⟩ : ∃ (B1 B2 D : List Value), Z = B1 ++ (B2 ++ D) ∧ B1.length = 3 ∧ B2.length = 3 * (C1.length + 1) := ⟨Z.take 3, (Z.drop 3).take (3 * (C1.length + 1)), (Z.drop 3).drop (3 * (C1.length + 1)), by rw [List.take_append_drop, List.take_append_drop], by rw [List.length_take]; omega, by rw [List.length_take, List.length_drop]; omega⟩
  obtain ⟨nb, hnb⟩ : ∃ nb, w.heap.size = nb := ⟨_, rfl⟩
  have hgn : gv ≠ nb := fun e => by have := blk_lt hv; omega
  have hcp1 : ∀ W : World, W.heap[nb]? = some (.cells (encss A ++ B1 ++ (B2 ++ D)).toArray 60 (0, 0)) → W.heap[gv]? = some (.cells (encs x).toArray 60 (0, 0)) → ∀ ty dl dc, 1 ≤ dl → (Builtin.copy_ #[52, 52] ty #[.slice (some ⟨nb, A.length * 3, none⟩) dl dc, .slice (some ⟨gv, 0, none⟩) 1 1]).run Try.prog W =
      .ok (goInt 1) (W.setRow nb (encss A ++ (encs x ++ (B2 ++ D))).toArray) := fun W hW hV ty dl dc hm => by
    rw [← List.append_assoc (encss A)]
    exact run_copy_mid W 52 52 ty 60 nb (A.length * 3) dl dc ⟨gv, 0, none⟩ 1 1 (encs x) i Try.underlying52 hi 1 (by simp only [Nat.min_def]; split <;> omega) (by rw [hs]; rfl) (fun j u hj => vcells hV j u hj) (fun v hv => List.all_eq_true.1 (encs_one x) v hv) 60 (encss A) B1 (B2 ++ D)
      (by rw [hW]) (by rw [hB1]; rfl) (by rw [encss_len]; omega)
  have hcp2 : ∀ W : World, Rows W b (A ++ c0 :: C1) rest → W.heap[nb]? = some (.cells (encss A ++ (encs x ++ (B2 ++ D))).toArray 60 (0, 0)) → ∀ ty dl dc sl sc, min sl dl = C1.length + 1 → (Builtin.copy_ #[52, 52] ty #[.slice (some ⟨nb, (A.length + 1) * 3, none⟩) dl dc, .slice (some ⟨b, A.length * 3, none⟩) sl sc]).run Try.prog W =
      .ok (goInt (C1.length + 1)) (W.setRow nb (encss A ++ (encs x ++ (encss (c0 :: C1) ++ D))).toArray) := fun W hR hW ty dl dc sl sc hm => by
    have h_ : (encss A ++ (encs x ++ (encss (c0 :: C1) ++ D))) = (encss A ++ encs x) ++ encss (c0 :: C1) ++ D := by simp only [List.append_assoc]
    rw [h_]
    exact run_copy_mid W 52 52 ty 60 nb ((A.length + 1) * 3) dl dc ⟨b, A.length * 3, none⟩ sl sc (encss (c0 :: C1)) i Try.underlying52 hi (C1.length + 1) hm.symm (by rw [encss_len, hs]; simp; omega) (fun j u hj => rows_src hR A (c0 :: C1) [] (by simp) _ rfl j u hj) (encss_one _) 60 (encss A ++ encs x) B2 D
      (by rw [hW]; simp only [List.append_assoc]) (by rw [encss_len, hB2]; simp) (by rw [List.length_append, encss_len]; simp [encs]; omega)
  have hl2 : (encss (A ++ x :: c0 :: C1) ++ D).length = G * 3 := by
    simp only [List.length_append, encss_len, List.length_cons] at hZl ⊢
    omega
  have hfin : ∀ (W : World), Fr (fun k => k = b) w W → (∃ cs, W.heap[nb]? = some (.cells cs 60 (0, 0))) → Puts w b (A ++ x :: c0 :: C1) (.returned (.slice (some ⟨nb, 0, none⟩) (A.length + (C1.length + 1 + 1)) G)) (W.setRow nb (encss A ++ (encs x ++ (encss (c0 :: C1) ++ D))).toArray) := by
    rintro W hF ⟨cs, hcs⟩
    refine ⟨nb, G, D, ?_, ?_, hl2, by unfold maxLen at hG2; omega, .inr (by omega), hF.set nb _ (.inr (by omega))⟩
    · rw [show (A ++ x :: c0 :: C1).length = A.length + (C1.length + 1 + 1) by simp]
    · show _ = _
      rw [setRow_heap W nb _ _ _ _ hcs, encss_app]
      simp [encss]
  obtain ⟨W1, hW1⟩ : ∃ W1, w.drew.alloc (.cells (encss A ++ (B1 ++ (B2 ++ D))).toArray 60) = W1 := ⟨_, rfl⟩
  have hN1 : W1.heap[nb]? = some (.cells (encss A ++ B1 ++ (B2 ++ D)).toArray 60 (0, 0)) := by
    rw [← hW1, ← hnb, List.append_assoc]
    exact blk_new w.drew _
  have hF1 : Fr (fun k => k = b) w W1 := by
    rw [← hW1]
    exact (Fr.refl _ w).drew.alloc _
  have hV1 : W1.heap[gv]? = some (.cells (encs x).toArray 60 (0, 0)) := by
    rw [← hW1]
    exact blk_alloc (w := w.drew) hv _
  have hR1 : W1.heap[b]? = some (.cells (encss (A ++ c0 :: C1) ++ rest).toArray 60 (0, 0)) := by
    rw [← hW1]
    exact blk_alloc (w := w.drew) hr _
  have hbn : b ≠ nb := fun e => by have := blk_lt hr; omega
  rw [hW1, hnb] at hrun
  have HRUN := Aside0.mk hrun
  have HF := Aside0.mk hfin
  have HC1 := Aside0.mk (hcp1 W1 hN1 hV1)
  have HC2 := Aside0.mk hcp2
  have hR2 := (setRow_ne W1 nb b (encss A ++ (encs x ++ (B2 ++ D))).toArray hbn).trans hR1
  have hN2 := setRow_heap W1 nb _ (encss A ++ (encs x ++ (B2 ++ D))).toArray _ _ hN1
  have hF2 : Fr (fun k => k = b) w (W1.setRow nb (encss A ++ (encs x ++ (B2 ++ D))).toArray) := hF1.set nb _ (.inr (by omega))
  have H2 := Aside0.mk (And.intro hR2 (And.intro hN2 hF2))
  obtain ⟨p, hp⟩ : ∃ p, A.length = p := ⟨_, rfl⟩
  obtain ⟨q, hq⟩ : ∃ q, C1.length = q := ⟨_, rfl⟩
  rw [hp, hq] at hc hn HF HRUN HC2 hG1
  rw [hp] at HC1
  rw [hp, hq]
  clear hrun hfin hcp1 hcp2 hR2 hN2 hF2 hN1 hF1 hV1 hR1 hW1 hbn hl2 hgn hB1 hB2 hZl hi hz hs hby hv hr e0 hp hq
  subst hc
  have hb0 : (0 : Int) ≤ (p : Int) := by omega
  have hb1 : (p : Int) ≤ (p : Int) + (q : Int) + 1 := by omega
  have hb2 : ¬ ((p : Int) = (p : Int) + (q : Int) + 1) := by omega
  have hb4 : ¬ (p + q + 1 = p) := by omega
  have hw2 : (p : Int) + (q : Int) + 1 + 1 - (p : Int) = ((q + 1 + 1 : Nat) : Int) := by omega
  have hw3 : wrap64 ((p : Int) + (q : Int) + 1 + 1) = (p : Int) + (q : Int) + 1 + 1 := wrap64_id (by unfold I64; omega)
  have hbp : (p : Int) ≤ (p : Int) + (q : Int) + 1 := by omega
  have hbq : p ≤ p + q + 1 := by omega
  go_enter Try.func60, Try.ntmps60
  go_upto_region 10 with (first | ((with_reducible refine gate_dst (N := 40) rfl ?_); refine Lib.wpList_append_run _ rfl _ _ 52 3 rfl _ _ rfl rfl _ _ (HRUN.out _) ?_) | fail)
  have hGp : ¬ (G = p) := by omega
  have hGp1 : ¬ (G = p + 1) := by omega
  have hb5 : (p : Int) ≤ (p : Int) + ((q : Int) + 1 + 1) := by omega
  go_upto_region 11 with (first | ((with_reducible refine gate_dst (N := 45) rfl ?_); refine wpList_copy_runI _ rfl _ _ 52 52 rfl _ _ rfl rfl (HC1.out _ _ _ (by omega)) ?_) | fail)
  obtain ⟨hR2, hN2, hF2⟩ := H2.out
  clear H2 HC1 HRUN
  generalize W1.setRow nb (encss A ++ (encs x ++ (B2 ++ D))).toArray = W2 at hR2 hN2 hF2 ⊢
  have hb7 : (p : Int) + 1 ≤ (p : Int) + ((q : Int) + 1 + 1) := by omega
  have hb8 : (0 : Int) ≤ (p : Int) + 1 := by omega
  have hw1 : IntKind.i64.wrap ((p : Int) + 1) = (p : Int) + 1 := by rw [IntKind.wrap_i64]; omega
  have htn : ((p : Int) + 1).toNat = p + 1 := by omega
  have hcp := HC2.out W2.drew hR2 hN2 3 (p + (q + 1 + 1) - (p + 1)) (G - (p + 1)) (p + q + 1 - p) (p + q + 1 - p) (by omega)
  have hq := Aside0.mk (HF.out W2.drew hF2.drew ⟨_, hN2⟩)
  clear HC2 HF hR2 hN2 hF2
  go_region_law (refine step_copy_runI rfl _ _ 52 52 rfl (.slice (some ⟨nb, (p + 1) * 3, none⟩) (p + (q + 1 + 1) - (p + 1)) (G - (p + 1))) (.slice (some ⟨b, p * 3, none⟩) (p + q + 1 - p) (p + q + 1 - p)) (by simp [Act.eval, Act.put]) (by simp [Act.eval, Act.put]) hcp ?_)
  go_wp2
  go_ret
  exact hq.out
end Go.Proofs.Ytbifanoiailjoaa.MRatePlays

/- A key is accepted. -/
namespace Go.Proofs.Ytbifanoiailjoaa.MRatePlays
open Go.RowKit Go.Proofs.YtbifanoiailjoaaW.PrintWords Go.Proofs.YtbifanoiailjoaaW.PrintLast Go.Proofs.YtbifanoiailjoaaW.PrintMore Go.Proofs.Ytbifanoiailjoaa.Base
set_option linter.unusedVariables false
set_option linter.unusedSimpArgs false

theorem inserts_c (W : World) (g b gv : Nat) (sl : Value) (es : List S60) (lo : Nat) (x : S60) (hs : Sls W g b sl es) (hlo : lo ≤ es.length) (hv : W.heap[gv]? = some (.cells (encs x).toArray 60 (0, 0))) (hne : gv ≠ b) (hn : es.length ≤ 1000000) :
    Calls Try.prog 60 #[sl, .int .i64 lo, .slice (some ⟨gv, 0, none⟩) 1 1] W fun e W' => ∃ b0, ((b0 = b ∧ b ≠ g) ∨ W.heap.size ≤ b0) ∧ Puts W b0 (es.take lo ++ x :: es.drop lo) e W' := by
  rcases Nat.lt_or_ge lo es.length with h | h
  · rcases hs with ⟨rfl, rfl, rfl⟩ | ⟨hbg, c, rest, rfl, hr, hl, hc⟩
    · simp at h
    obtain ⟨A, C1, c0, he, hA⟩ : ∃ A C1 c0, es = A ++ c0 :: C1 ∧ A.length = lo := ⟨es.take lo, es.drop (lo + 1), es[lo], by rw [← List.drop_eq_getElem_cons h, List.take_append_drop], by rw [List.length_take]; omega⟩
    subst he hA
    have e1 : (A ++ c0 :: C1).length = A.length + C1.length + 1 := by simp; omega
    rw [e1] at hn ⊢
    rw [List.take_left, List.drop_left]
    have hcl : A.length + C1.length + 1 ≤ c := by
      rw [List.length_append, encss_len, e1] at hl
      omega
    rcases Nat.lt_or_ge (A.length + C1.length + 1) c with h1 | h1
    · exact (insmids_room W c b gv A C1 c0 x rest hne hr hl h1 hc hv (by omega)).mono fun e W' h => ⟨b, .inl ⟨rfl, hbg⟩, h⟩
    · exact (insmids_grow W c b gv A C1 c0 x rest hr (by omega) hv (by omega)).mono fun e W' h => ⟨b, .inl ⟨rfl, hbg⟩, h⟩
  · obtain rfl : lo = es.length := by omega
    rw [List.take_length, List.drop_length]
    rcases hs with ⟨rfl, rfl, rfl⟩ | ⟨hbg, c, rest, rfl, hr, hl, hc⟩
    · exact (insends_grow W none 0 W.heap.size gv [] x [] (.inl ⟨rfl, rfl, rfl⟩) (by simp) hv).mono fun e W' h => ⟨_, .inr (Nat.le_refl _), h⟩
    · have hcl : es.length ≤ c := by
        rw [List.length_append, encss_len] at hl
        omega
      rcases Nat.lt_or_ge es.length c with h1 | h1
      · exact (insends_room W c b gv es x rest hr hl h1 hc hv).mono fun e W' h => ⟨b, .inl ⟨rfl, hbg⟩, h⟩
      · exact (insends_grow W _ c b gv es x rest (.inr ⟨rfl, hr, by omega⟩) hn hv).mono fun e W' h => ⟨b, .inl ⟨rfl, hbg⟩, h⟩
def RWs (EA EC : List Value) (key : ByteArray) (a : Int) (p : Bool) : Array Value := (EA ++ (([.string key, .int .i64 a, .bool p] : List Value) ++ EC)).toArray
theorem RWs_size (EA EC : List Value) (key : ByteArray) (a : Int) (p : Bool) (lo j : Nat) (h : EA.length = lo * 3) (hj : j < 3) : lo * 3 + j + 1 ≤ (RWs EA EC key a p).size := by
  simp [RWs, h]
  omega
theorem rwas (EA EC : List Value) (key : ByteArray) (a a' : Int) (p : Bool) (lo : Nat) (h : EA.length = lo * 3) : putl (RWs EA EC key a p) (lo * 3 + 1) [.int .i64 a'] = RWs EA EC key a' p := by
  have := putl_mid (EA ++ [.string key]) [.int .i64 a'] [.int .i64 a] ([.bool p] ++ EC) rfl
  rw [List.length_append, h, List.length_singleton] at this
  unfold RWs
  simpa using this
theorem rwbs (EA EC : List Value) (key : ByteArray) (a : Int) (p p' : Bool) (lo : Nat) (h : EA.length = lo * 3) : putl (RWs EA EC key a p) (lo * 3 + 2) [.bool p'] = RWs EA EC key a p' := by
  have := putl_mid (EA ++ [.string key, .int .i64 a]) [.bool p'] [.bool p] EC rfl
  rw [List.length_append, h] at this
  unfold RWs
  simpa using this
theorem RWs_row (A C : List S60) (rest : List Value) (x : S60) : (encss (A ++ x :: C) ++ rest).toArray = RWs (encss A) (encss C ++ rest) x.f0 x.f1 x.f2 := by
  simp [RWs, encss, encs]
/-- The list then: the key's moment is told anew, or the key is put in. -/
def setAts (es : List S60) (key : ByteArray) (moment : Int) : List S60 := es.take (lows es key) ++ ⟨key, moment, false⟩ :: es.drop (lows es key + 1)
def putIns (es : List S60) (key : ByteArray) (moment : Int) : List S60 := es.take (lows es key) ++ ⟨key, moment, false⟩ :: es.drop (lows es key)
def accs (es : List S60) (key : ByteArray) (moment : Int) (room : Int) : List S60 :=
  if hass es key = true then setAts es key moment else putIns (cuts (es.length - (room - 1).toNat) es) key moment
theorem hass_key (es : List S60) (key : ByteArray) (h : hass es key = true) : (rd_T60 es (lows es key)).f0 = key := by
  rw [hass_eq es key _ rfl] at h
  simp only [Bool.and_eq_true, decide_eq_true_eq] at h
  exact (cps_zero _ _).1 h.2
theorem hass_iff (es : List S60) (key : ByteArray) (h : Rises es) : hass es key = true ↔ ∃ x ∈ es, x.f0 = key := by
  constructor
  · intro hh
    have hl := hass_lt es key hh
    refine ⟨rd_T60 es (lows es key), ?_, hass_key es key hh⟩
    rw [rds_get es _ hl]
    exact List.getElem_mem _
  · rintro ⟨x, hx, rfl⟩
    exact hass_mem es h x hx
theorem cuts_has (n : Nat) (es : List S60) (key : ByteArray) (h : Rises es) (hh : hass es key = false) : hass (cuts n es) key = false := by
  cases q : hass (cuts n es) key with
  | false => rfl
  | true =>
    obtain ⟨x, hx, hk⟩ := (hass_iff _ key (cuts_rise n es h)).1 q
    rw [(hass_iff es key h).2 ⟨x, (cuts_sub n es).subset hx, hk⟩] at hh
    cases hh
set_option maxHeartbeats 4000000 in
set_option maxRecDepth 100000 in
theorem accepts_has (w : World) (g b : Nat) (es : List S60) (room span : Int) (key : ByteArray) (moment : Int) (H : Tabs w g b es room span) (hS : Rises es) (hn : es.length ≤ 1000000) (hr1 : 1 ≤ room) (hr2 : room ≤ 1024) (hh : hass es key = true) :
    Calls Try.prog 42 #[.pointer (some ⟨g, 0, none⟩), .string key, .int .i64 moment] w fun e w' => e = .returned (.tuple #[]) ∧ ∃ b', Tabs w' g b' (accs es key moment room) room span ∧ (b' = b ∨ w.heap.size ≤ b') ∧ Fr (fun k => k = g ∨ k = b) w w' := by
  have hlt := hass_lt es key hh
  have hkey := hass_key es key hh
  have HP := Aside0.mk (fun W (hW : Tabs W g b es room span) => places_c W g b es room span key hW hS hn)
  rw [hh] at HP
  have ha : accs es key moment room = es.take (lows es key) ++ ⟨key, moment, false⟩ :: es.drop (lows es key + 1) := by unfold accs setAts; rw [hh]; rfl
  have HT := Aside0.mk H
  have HF := Aside0.mk (Fr.refl (fun k => k = g ∨ k = b) w)
  obtain ⟨lo, hlo⟩ : ∃ lo, lows es key = lo := ⟨_, rfl⟩
  rw [hlo] at hlt HP hkey ha
  have HA := Aside0.mk ha
  have HKEY := Aside0.mk hkey
  have HLT := Aside0.mk hlt
  clear hS hn ha hlo H hkey hlt
  go_enter Try.func42, Try.ntmps42
  go_upto_region 6 with (first | (go_at_call 43; refine (HP.out _ HT.out).mono ?_; rintro e_ w1 ⟨rfl, hb_⟩; have HT := Aside0.mk (HT.out.below hb_); have HF := Aside0.mk (HF.out.below hb_); clear hb_) | fail)
  obtain ⟨b1, hb1⟩ : ∃ b1, b = b1 := ⟨_, rfl⟩
  obtain ⟨n1, c1, EA, EC, y1, y2, K6_, HGB_, HEA_, hlt1, HEND_⟩ : ∃ (n1 c1 : Nat) (EA EC : List Value) (y1 : Int) (y2 : Bool), (w1.heap[g]? = some (.cells #[.slice (some ⟨b1, 0, none⟩) n1 c1, .int .i64 room, .int .i64 span] 88 (0, 0)) ∧ w1.heap[b1]? = some (.cells (RWs EA EC key y1 y2) 60 (0, 0)) ∧ Fr (fun k => k = g ∨ k = b) w w1) ∧ g ≠ b1 ∧ EA.length = lo * 3 ∧ (lo : Int) < (n1 : Int) ∧
      (∀ W : World, W.heap[g]? = some (.cells #[.slice (some ⟨b1, 0, none⟩) n1 c1, .int .i64 room, .int .i64 span] 88 (0, 0)) → W.heap[b1]? = some (.cells (RWs EA EC key moment false) 60 (0, 0)) → Fr (fun k => k = g ∨ k = b) w W → ∃ b', Tabs W g b' (accs es key moment room) room span ∧ (b' = b ∨ w.heap.size ≤ b') ∧ Fr (fun k => k = g ∨ k = b) w W) := by
    subst hb1
    have hlt := HLT.out
    obtain ⟨sl, hg, hs⟩ := HT.out
    rcases hs with ⟨rfl, rfl, rfl⟩ | ⟨hne, c1, rest, rfl, hr, hl, hc⟩
    · simp at hlt
    obtain ⟨A, hA⟩ : ∃ A, es.take lo = A := ⟨_, rfl⟩
    obtain ⟨C, hC⟩ : ∃ C, es.drop (lo + 1) = C := ⟨_, rfl⟩
    have hp := parts es lo hlt
    have hkey := HKEY.out
    have ha := HA.out
    obtain ⟨x, hx⟩ : ∃ x, rd_T60 es lo = x := ⟨_, rfl⟩
    rw [hx] at hkey hp
    obtain ⟨x0, y1, y2⟩ := x
    dsimp only at hkey
    have hkey' := hkey.symm
    subst hkey'
    have hAl : (encss A).length = lo * 3 := by rw [encss_len, ← hA, List.length_take]; omega
    rw [hA, hC, List.append_assoc, List.singleton_append] at hp
    rw [hA, hC] at ha
    obtain ⟨n1, hn1⟩ : ∃ n1, es.length = n1 := ⟨_, rfl⟩
    have hn2 : (A ++ (⟨key, moment, false⟩ : S60) :: C).length = n1 := by rw [← hn1, hp]; simp
    rw [hn1] at hg hlt
    rw [hp] at hr hl
    have hr' : w1.heap[b]? = some (.cells (RWs (encss A) (encss C ++ rest) key y1 y2) 60 (0, 0)) := by
      rw [show _ = _ from hr, RWs_row]
    refine ⟨n1, c1, _, _, y1, y2, ⟨hg, hr', HF.out⟩, hne.symm, hAl, by omega, fun W h1 h2 h3 => ⟨b, ⟨_, h1, .inr ⟨hne, c1, rest, ?_, ?_, ?_, hc⟩⟩, .inl rfl, h3⟩⟩
    · rw [ha, hn2]
    · rw [ha]
      show _ = _
      rw [h2, RWs_row]
    · rw [ha, ← hl]
      simp only [List.length_append, encss_len, List.length_cons]
  have K6 := Aside0.mk K6_
  have HGB := Aside0.mk HGB_
  have HEA := Aside0.mk HEA_
  have HEND := Aside0.mk HEND_
  have HSB := Aside0.mk (show (b1 = g ∨ b1 = b) ∨ w.heap.size ≤ b1 from .inl (.inr hb1.symm))
  clear K6_ HGB_ HEA_ HEND_ hb1 HT HF HP HA HKEY HLT
  refine region_inv (T := ?T6) [some 45, some 46, some 47, some 48, some 49, some 50, some 51, some 52, some 53, some 54, some 55, some 56, some 57, none, some 58, some 59, none] ?hT6 (fun dn_ X w_ => w_.heap[g]? = some (.cells #[.slice (some ⟨b1, 0, none⟩) n1 c1, .int .i64 room, .int .i64 span] 88 (0, 0)) ∧ w_.heap[b1]? = some (.cells (RWs EA EC key (bif dn_ 13 then moment else y1) (bif dn_ 16 then false else y2)) 60 (0, 0)) ∧ Fr (fun k => k = g ∨ k = b) w w_ ∧ (dn_ 0 = true → X 0 = .pointer (some ⟨g, 0, none⟩)) ∧ (dn_ 1 = true → X 1 = .pointer (some ⟨g, 0, none⟩)) ∧ (dn_ 2 = true → X 2 = .pointer (some ⟨g, 0, none⟩)) ∧ (dn_ 3 = true → X 3 = .slice (some ⟨b1, 0, none⟩) n1 c1) ∧ (dn_ 4 = true → X 4 = .int .i64 lo) ∧ (dn_ 5 = true → X 5 = .pointer (some ⟨g, 0, none⟩)) ∧ (dn_ 6 = true → X 6 = .pointer (some ⟨g, 0, none⟩)) ∧ (dn_ 7 = true → X 7 = .pointer (some ⟨g, 0, none⟩)) ∧ (dn_ 8 = true → X 8 = .slice (some ⟨b1, 0, none⟩) n1 c1) ∧ (dn_ 9 = true → X 9 = .int .i64 lo) ∧ (dn_ 10 = true → X 10 = .int .i64 moment) ∧ (dn_ 11 = true → X 11 = .pointer (some ⟨b1, lo * 3, none⟩)) ∧ (dn_ 12 = true → X 12 = .pointer (some ⟨b1, lo * 3 + 1, none⟩)) ∧ (dn_ 13 = true → True) ∧ (dn_ 14 = true → X 14 = .pointer (some ⟨b1, lo * 3, none⟩)) ∧ (dn_ 15 = true → X 15 = .pointer (some ⟨b1, lo * 3 + 2, none⟩)) ∧ (dn_ 16 = true → True)) (by kernel_rfl) (by kernel_rfl) (by rfl) [0, 1, 2, 3, 4, 5, 6, 7, 8, 9, 10, 11, 12, 13, 14, 15, 16] rfl (.cons (some 45) rfl rfl (fun dn_ X w_ hd0_ hd_ hI_ K hK => ?_) (.cons (some 46) rfl rfl (fun dn_ X w_ hd0_ hd_ hI_ K hK => ?_) (.cons (some 47) rfl rfl (fun dn_ X w_ hd0_ hd_ hI_ K hK => ?_) (.cons (some 48) rfl rfl (fun dn_ X w_ hd0_ hd_ hI_ K hK => ?_) (.cons (some 49) rfl rfl (fun dn_ X w_ hd0_ hd_ hI_ K hK => ?_) (.cons (some 50) rfl rfl (fun dn_ X w_ hd0_ hd_ hI_ K hK => ?_) (.cons (some 51) rfl rfl (fun dn_ X w_ hd0_ hd_ hI_ K hK => ?_) (.cons (some 52) rfl rfl (fun dn_ X w_ hd0_ hd_ hI_ K hK => ?_) (.cons (some 53) rfl rfl (fun dn_ X w_ hd0_ hd_ hI_ K hK => ?_) (.cons (some 54) rfl rfl (fun dn_ X w_ hd0_ hd_ hI_ K hK => ?_) (.cons (some 55) rfl rfl (fun dn_ X w_ hd0_ hd_ hI_ K hK => ?_) (.cons (some 56) rfl rfl (fun dn_ X w_ hd0_ hd_ hI_ K hK => ?_) (.cons (some 57) rfl rfl (fun dn_ X w_ hd0_ hd_ hI_ K hK => ?_) (.cons none rfl rfl (fun dn_ X w_ hd0_ hd_ hI_ K hK => ?_) (.cons (some 58) rfl rfl (fun dn_ X w_ hd0_ hd_ hI_ K hK => ?_) (.cons (some 59) rfl rfl (fun dn_ X w_ hd0_ hd_ hI_ K hK => ?_) (.cons none rfl rfl (fun dn_ X w_ hd0_ hd_ hI_ K hK => ?_) .nil))))))))))))))))) ?h06 ?hend6
  case hT6 =>
    intro X
    simp only [fill, Act.put, List.setIfInBounds_toArray, List.set_cons_zero, List.set_cons_succ, Nat.zero_add, Nat.reduceAdd]
    rfl
  case h06 =>
    exact ⟨K6.out.1, K6.out.2.1, K6.out.2.2.drew, (fun h => by cases h), (fun h => by cases h), (fun h => by cases h), (fun h => by cases h), (fun h => by cases h), (fun h => by cases h), (fun h => by cases h), (fun h => by cases h), (fun h => by cases h), (fun h => by cases h), (fun h => by cases h), (fun h => by cases h), (fun h => by cases h), (fun h => by cases h), (fun h => by cases h), (fun h => by cases h), (fun h => by cases h)⟩
  · -- 0
    refine val_ (w1 := w_) (v := .pointer (some ⟨g, 0, none⟩)) (by rfl) rfl ?_ (hK.out _ _ _ rfl ⟨hI_.1, hI_.2.1, hI_.2.2.1, (fun _ => rfl), hI_.2.2.2.2.1, hI_.2.2.2.2.2.1, hI_.2.2.2.2.2.2.1, hI_.2.2.2.2.2.2.2.1, hI_.2.2.2.2.2.2.2.2.1, hI_.2.2.2.2.2.2.2.2.2.1, hI_.2.2.2.2.2.2.2.2.2.2.1, hI_.2.2.2.2.2.2.2.2.2.2.2.1, hI_.2.2.2.2.2.2.2.2.2.2.2.2.1, hI_.2.2.2.2.2.2.2.2.2.2.2.2.2.1, hI_.2.2.2.2.2.2.2.2.2.2.2.2.2.2.1, hI_.2.2.2.2.2.2.2.2.2.2.2.2.2.2.2.1, hI_.2.2.2.2.2.2.2.2.2.2.2.2.2.2.2.2.1, hI_.2.2.2.2.2.2.2.2.2.2.2.2.2.2.2.2.2.1, hI_.2.2.2.2.2.2.2.2.2.2.2.2.2.2.2.2.2.2.1, hI_.2.2.2.2.2.2.2.2.2.2.2.2.2.2.2.2.2.2.2⟩)
    go_simp
    all_goals (first | decide | rfl)
  · -- 1
    have e0 := hI_.2.2.2.1 (hd_ 1 0 (by kernel_rfl))
    refine val_ (w1 := w_) (v := .pointer (some ⟨g, 0, none⟩)) (by rfl) rfl ?_ (hK.out _ _ _ rfl ⟨hI_.1, hI_.2.1, hI_.2.2.1, hI_.2.2.2.1, (fun _ => rfl), hI_.2.2.2.2.2.1, hI_.2.2.2.2.2.2.1, hI_.2.2.2.2.2.2.2.1, hI_.2.2.2.2.2.2.2.2.1, hI_.2.2.2.2.2.2.2.2.2.1, hI_.2.2.2.2.2.2.2.2.2.2.1, hI_.2.2.2.2.2.2.2.2.2.2.2.1, hI_.2.2.2.2.2.2.2.2.2.2.2.2.1, hI_.2.2.2.2.2.2.2.2.2.2.2.2.2.1, hI_.2.2.2.2.2.2.2.2.2.2.2.2.2.2.1, hI_.2.2.2.2.2.2.2.2.2.2.2.2.2.2.2.1, hI_.2.2.2.2.2.2.2.2.2.2.2.2.2.2.2.2.1, hI_.2.2.2.2.2.2.2.2.2.2.2.2.2.2.2.2.2.1, hI_.2.2.2.2.2.2.2.2.2.2.2.2.2.2.2.2.2.2.1, hI_.2.2.2.2.2.2.2.2.2.2.2.2.2.2.2.2.2.2.2⟩)
    go_simp
    all_goals (first | decide | rfl)
  · -- 2
    have e1 := hI_.2.2.2.2.1 (hd_ 1 1 (by kernel_rfl))
    refine val_ (w1 := w_) (v := .pointer (some ⟨g, 0, none⟩)) (by rfl) rfl ?_ (hK.out _ _ _ rfl ⟨hI_.1, hI_.2.1, hI_.2.2.1, hI_.2.2.2.1, hI_.2.2.2.2.1, (fun _ => rfl), hI_.2.2.2.2.2.2.1, hI_.2.2.2.2.2.2.2.1, hI_.2.2.2.2.2.2.2.2.1, hI_.2.2.2.2.2.2.2.2.2.1, hI_.2.2.2.2.2.2.2.2.2.2.1, hI_.2.2.2.2.2.2.2.2.2.2.2.1, hI_.2.2.2.2.2.2.2.2.2.2.2.2.1, hI_.2.2.2.2.2.2.2.2.2.2.2.2.2.1, hI_.2.2.2.2.2.2.2.2.2.2.2.2.2.2.1, hI_.2.2.2.2.2.2.2.2.2.2.2.2.2.2.2.1, hI_.2.2.2.2.2.2.2.2.2.2.2.2.2.2.2.2.1, hI_.2.2.2.2.2.2.2.2.2.2.2.2.2.2.2.2.2.1, hI_.2.2.2.2.2.2.2.2.2.2.2.2.2.2.2.2.2.2.1, hI_.2.2.2.2.2.2.2.2.2.2.2.2.2.2.2.2.2.2.2⟩)
    go_simp
    all_goals (first | decide | rfl)
  · -- 3
    have wG := hI_.1
    have e2 := hI_.2.2.2.2.2.1 (hd_ 1 2 (by kernel_rfl))
    have z0_ := (blk_cell wG 0).trans (show (#[.slice (some ⟨b1, 0, none⟩) n1 c1, .int .i64 room, .int .i64 span] : Array Value)[0]? = some (.slice (some ⟨b1, 0, none⟩) n1 c1) from rfl)
    refine val_ (w1 := w_) (v := .slice (some ⟨b1, 0, none⟩) n1 c1) (by rfl) rfl ?_ (hK.out _ _ _ rfl ⟨hI_.1, hI_.2.1, hI_.2.2.1, hI_.2.2.2.1, hI_.2.2.2.2.1, hI_.2.2.2.2.2.1, (fun _ => rfl), hI_.2.2.2.2.2.2.2.1, hI_.2.2.2.2.2.2.2.2.1, hI_.2.2.2.2.2.2.2.2.2.1, hI_.2.2.2.2.2.2.2.2.2.2.1, hI_.2.2.2.2.2.2.2.2.2.2.2.1, hI_.2.2.2.2.2.2.2.2.2.2.2.2.1, hI_.2.2.2.2.2.2.2.2.2.2.2.2.2.1, hI_.2.2.2.2.2.2.2.2.2.2.2.2.2.2.1, hI_.2.2.2.2.2.2.2.2.2.2.2.2.2.2.2.1, hI_.2.2.2.2.2.2.2.2.2.2.2.2.2.2.2.2.1, hI_.2.2.2.2.2.2.2.2.2.2.2.2.2.2.2.2.2.1, hI_.2.2.2.2.2.2.2.2.2.2.2.2.2.2.2.2.2.2.1, hI_.2.2.2.2.2.2.2.2.2.2.2.2.2.2.2.2.2.2.2⟩)
    go_simp
    all_goals (first | decide | rfl)
  · -- 4
    refine val_ (w1 := w_) (v := .int .i64 lo) (by rfl) rfl ?_ (hK.out _ _ _ rfl ⟨hI_.1, hI_.2.1, hI_.2.2.1, hI_.2.2.2.1, hI_.2.2.2.2.1, hI_.2.2.2.2.2.1, hI_.2.2.2.2.2.2.1, (fun _ => rfl), hI_.2.2.2.2.2.2.2.2.1, hI_.2.2.2.2.2.2.2.2.2.1, hI_.2.2.2.2.2.2.2.2.2.2.1, hI_.2.2.2.2.2.2.2.2.2.2.2.1, hI_.2.2.2.2.2.2.2.2.2.2.2.2.1, hI_.2.2.2.2.2.2.2.2.2.2.2.2.2.1, hI_.2.2.2.2.2.2.2.2.2.2.2.2.2.2.1, hI_.2.2.2.2.2.2.2.2.2.2.2.2.2.2.2.1, hI_.2.2.2.2.2.2.2.2.2.2.2.2.2.2.2.2.1, hI_.2.2.2.2.2.2.2.2.2.2.2.2.2.2.2.2.2.1, hI_.2.2.2.2.2.2.2.2.2.2.2.2.2.2.2.2.2.2.1, hI_.2.2.2.2.2.2.2.2.2.2.2.2.2.2.2.2.2.2.2⟩)
    go_simp
    all_goals (first | decide | rfl)
  · -- 5
    refine val_ (w1 := w_) (v := .pointer (some ⟨g, 0, none⟩)) (by rfl) rfl ?_ (hK.out _ _ _ rfl ⟨hI_.1, hI_.2.1, hI_.2.2.1, hI_.2.2.2.1, hI_.2.2.2.2.1, hI_.2.2.2.2.2.1, hI_.2.2.2.2.2.2.1, hI_.2.2.2.2.2.2.2.1, (fun _ => rfl), hI_.2.2.2.2.2.2.2.2.2.1, hI_.2.2.2.2.2.2.2.2.2.2.1, hI_.2.2.2.2.2.2.2.2.2.2.2.1, hI_.2.2.2.2.2.2.2.2.2.2.2.2.1, hI_.2.2.2.2.2.2.2.2.2.2.2.2.2.1, hI_.2.2.2.2.2.2.2.2.2.2.2.2.2.2.1, hI_.2.2.2.2.2.2.2.2.2.2.2.2.2.2.2.1, hI_.2.2.2.2.2.2.2.2.2.2.2.2.2.2.2.2.1, hI_.2.2.2.2.2.2.2.2.2.2.2.2.2.2.2.2.2.1, hI_.2.2.2.2.2.2.2.2.2.2.2.2.2.2.2.2.2.2.1, hI_.2.2.2.2.2.2.2.2.2.2.2.2.2.2.2.2.2.2.2⟩)
    go_simp
    all_goals (first | decide | rfl)
  · -- 6
    have e5 := hI_.2.2.2.2.2.2.2.2.1 (hd_ 1 5 (by kernel_rfl))
    refine val_ (w1 := w_) (v := .pointer (some ⟨g, 0, none⟩)) (by rfl) rfl ?_ (hK.out _ _ _ rfl ⟨hI_.1, hI_.2.1, hI_.2.2.1, hI_.2.2.2.1, hI_.2.2.2.2.1, hI_.2.2.2.2.2.1, hI_.2.2.2.2.2.2.1, hI_.2.2.2.2.2.2.2.1, hI_.2.2.2.2.2.2.2.2.1, (fun _ => rfl), hI_.2.2.2.2.2.2.2.2.2.2.1, hI_.2.2.2.2.2.2.2.2.2.2.2.1, hI_.2.2.2.2.2.2.2.2.2.2.2.2.1, hI_.2.2.2.2.2.2.2.2.2.2.2.2.2.1, hI_.2.2.2.2.2.2.2.2.2.2.2.2.2.2.1, hI_.2.2.2.2.2.2.2.2.2.2.2.2.2.2.2.1, hI_.2.2.2.2.2.2.2.2.2.2.2.2.2.2.2.2.1, hI_.2.2.2.2.2.2.2.2.2.2.2.2.2.2.2.2.2.1, hI_.2.2.2.2.2.2.2.2.2.2.2.2.2.2.2.2.2.2.1, hI_.2.2.2.2.2.2.2.2.2.2.2.2.2.2.2.2.2.2.2⟩)
    go_simp
    all_goals (first | decide | rfl)
  · -- 7
    have e6 := hI_.2.2.2.2.2.2.2.2.2.1 (hd_ 1 6 (by kernel_rfl))
    refine val_ (w1 := w_) (v := .pointer (some ⟨g, 0, none⟩)) (by rfl) rfl ?_ (hK.out _ _ _ rfl ⟨hI_.1, hI_.2.1, hI_.2.2.1, hI_.2.2.2.1, hI_.2.2.2.2.1, hI_.2.2.2.2.2.1, hI_.2.2.2.2.2.2.1, hI_.2.2.2.2.2.2.2.1, hI_.2.2.2.2.2.2.2.2.1, hI_.2.2.2.2.2.2.2.2.2.1, (fun _ => rfl), hI_.2.2.2.2.2.2.2.2.2.2.2.1, hI_.2.2.2.2.2.2.2.2.2.2.2.2.1, hI_.2.2.2.2.2.2.2.2.2.2.2.2.2.1, hI_.2.2.2.2.2.2.2.2.2.2.2.2.2.2.1, hI_.2.2.2.2.2.2.2.2.2.2.2.2.2.2.2.1, hI_.2.2.2.2.2.2.2.2.2.2.2.2.2.2.2.2.1, hI_.2.2.2.2.2.2.2.2.2.2.2.2.2.2.2.2.2.1, hI_.2.2.2.2.2.2.2.2.2.2.2.2.2.2.2.2.2.2.1, hI_.2.2.2.2.2.2.2.2.2.2.2.2.2.2.2.2.2.2.2⟩)
    go_simp
    all_goals (first | decide | rfl)
  · -- 8
    have wG := hI_.1
    have e7 := hI_.2.2.2.2.2.2.2.2.2.2.1 (hd_ 1 7 (by kernel_rfl))
    have z0_ := (blk_cell wG 0).trans (show (#[.slice (some ⟨b1, 0, none⟩) n1 c1, .int .i64 room, .int .i64 span] : Array Value)[0]? = some (.slice (some ⟨b1, 0, none⟩) n1 c1) from rfl)
    refine val_ (w1 := w_) (v := .slice (some ⟨b1, 0, none⟩) n1 c1) (by rfl) rfl ?_ (hK.out _ _ _ rfl ⟨hI_.1, hI_.2.1, hI_.2.2.1, hI_.2.2.2.1, hI_.2.2.2.2.1, hI_.2.2.2.2.2.1, hI_.2.2.2.2.2.2.1, hI_.2.2.2.2.2.2.2.1, hI_.2.2.2.2.2.2.2.2.1, hI_.2.2.2.2.2.2.2.2.2.1, hI_.2.2.2.2.2.2.2.2.2.2.1, (fun _ => rfl), hI_.2.2.2.2.2.2.2.2.2.2.2.2.1, hI_.2.2.2.2.2.2.2.2.2.2.2.2.2.1, hI_.2.2.2.2.2.2.2.2.2.2.2.2.2.2.1, hI_.2.2.2.2.2.2.2.2.2.2.2.2.2.2.2.1, hI_.2.2.2.2.2.2.2.2.2.2.2.2.2.2.2.2.1, hI_.2.2.2.2.2.2.2.2.2.2.2.2.2.2.2.2.2.1, hI_.2.2.2.2.2.2.2.2.2.2.2.2.2.2.2.2.2.2.1, hI_.2.2.2.2.2.2.2.2.2.2.2.2.2.2.2.2.2.2.2⟩)
    go_simp
    all_goals (first | decide | rfl)
  · -- 9
    refine val_ (w1 := w_) (v := .int .i64 lo) (by rfl) rfl ?_ (hK.out _ _ _ rfl ⟨hI_.1, hI_.2.1, hI_.2.2.1, hI_.2.2.2.1, hI_.2.2.2.2.1, hI_.2.2.2.2.2.1, hI_.2.2.2.2.2.2.1, hI_.2.2.2.2.2.2.2.1, hI_.2.2.2.2.2.2.2.2.1, hI_.2.2.2.2.2.2.2.2.2.1, hI_.2.2.2.2.2.2.2.2.2.2.1, hI_.2.2.2.2.2.2.2.2.2.2.2.1, (fun _ => rfl), hI_.2.2.2.2.2.2.2.2.2.2.2.2.2.1, hI_.2.2.2.2.2.2.2.2.2.2.2.2.2.2.1, hI_.2.2.2.2.2.2.2.2.2.2.2.2.2.2.2.1, hI_.2.2.2.2.2.2.2.2.2.2.2.2.2.2.2.2.1, hI_.2.2.2.2.2.2.2.2.2.2.2.2.2.2.2.2.2.1, hI_.2.2.2.2.2.2.2.2.2.2.2.2.2.2.2.2.2.2.1, hI_.2.2.2.2.2.2.2.2.2.2.2.2.2.2.2.2.2.2.2⟩)
    go_simp
    all_goals (first | decide | rfl)
  · -- 10
    refine val_ (w1 := w_) (v := .int .i64 moment) (by rfl) rfl ?_ (hK.out _ _ _ rfl ⟨hI_.1, hI_.2.1, hI_.2.2.1, hI_.2.2.2.1, hI_.2.2.2.2.1, hI_.2.2.2.2.2.1, hI_.2.2.2.2.2.2.1, hI_.2.2.2.2.2.2.2.1, hI_.2.2.2.2.2.2.2.2.1, hI_.2.2.2.2.2.2.2.2.2.1, hI_.2.2.2.2.2.2.2.2.2.2.1, hI_.2.2.2.2.2.2.2.2.2.2.2.1, hI_.2.2.2.2.2.2.2.2.2.2.2.2.1, (fun _ => rfl), hI_.2.2.2.2.2.2.2.2.2.2.2.2.2.2.1, hI_.2.2.2.2.2.2.2.2.2.2.2.2.2.2.2.1, hI_.2.2.2.2.2.2.2.2.2.2.2.2.2.2.2.2.1, hI_.2.2.2.2.2.2.2.2.2.2.2.2.2.2.2.2.2.1, hI_.2.2.2.2.2.2.2.2.2.2.2.2.2.2.2.2.2.2.1, hI_.2.2.2.2.2.2.2.2.2.2.2.2.2.2.2.2.2.2.2⟩)
    go_simp
    all_goals (first | decide | rfl)
  · -- 11
    have e3 := hI_.2.2.2.2.2.2.1 (hd_ 1 3 (by kernel_rfl))
    have e4 := hI_.2.2.2.2.2.2.2.1 (hd_ 1 4 (by kernel_rfl))
    refine val_ (w1 := w_) (v := .pointer (some ⟨b1, lo * 3, none⟩)) (by rfl) rfl ?_ (hK.out _ _ _ rfl ⟨hI_.1, hI_.2.1, hI_.2.2.1, hI_.2.2.2.1, hI_.2.2.2.2.1, hI_.2.2.2.2.2.1, hI_.2.2.2.2.2.2.1, hI_.2.2.2.2.2.2.2.1, hI_.2.2.2.2.2.2.2.2.1, hI_.2.2.2.2.2.2.2.2.2.1, hI_.2.2.2.2.2.2.2.2.2.2.1, hI_.2.2.2.2.2.2.2.2.2.2.2.1, hI_.2.2.2.2.2.2.2.2.2.2.2.2.1, hI_.2.2.2.2.2.2.2.2.2.2.2.2.2.1, (fun _ => rfl), hI_.2.2.2.2.2.2.2.2.2.2.2.2.2.2.2.1, hI_.2.2.2.2.2.2.2.2.2.2.2.2.2.2.2.2.1, hI_.2.2.2.2.2.2.2.2.2.2.2.2.2.2.2.2.2.1, hI_.2.2.2.2.2.2.2.2.2.2.2.2.2.2.2.2.2.2.1, hI_.2.2.2.2.2.2.2.2.2.2.2.2.2.2.2.2.2.2.2⟩)
    go_simp
    all_goals (first | decide | rfl)
  · -- 12
    have e11 := hI_.2.2.2.2.2.2.2.2.2.2.2.2.2.2.1 (hd_ 1 11 (by kernel_rfl))
    refine val_ (w1 := w_) (v := .pointer (some ⟨b1, lo * 3 + 1, none⟩)) (by rfl) rfl ?_ (hK.out _ _ _ rfl ⟨hI_.1, hI_.2.1, hI_.2.2.1, hI_.2.2.2.1, hI_.2.2.2.2.1, hI_.2.2.2.2.2.1, hI_.2.2.2.2.2.2.1, hI_.2.2.2.2.2.2.2.1, hI_.2.2.2.2.2.2.2.2.1, hI_.2.2.2.2.2.2.2.2.2.1, hI_.2.2.2.2.2.2.2.2.2.2.1, hI_.2.2.2.2.2.2.2.2.2.2.2.1, hI_.2.2.2.2.2.2.2.2.2.2.2.2.1, hI_.2.2.2.2.2.2.2.2.2.2.2.2.2.1, hI_.2.2.2.2.2.2.2.2.2.2.2.2.2.2.1, (fun _ => rfl), hI_.2.2.2.2.2.2.2.2.2.2.2.2.2.2.2.2.1, hI_.2.2.2.2.2.2.2.2.2.2.2.2.2.2.2.2.2.1, hI_.2.2.2.2.2.2.2.2.2.2.2.2.2.2.2.2.2.2.1, hI_.2.2.2.2.2.2.2.2.2.2.2.2.2.2.2.2.2.2.2⟩)
    go_simp
    all_goals (first | decide | rfl)
  · -- 13
    have wG := hI_.1
    have wB := hI_.2.1
    have wF := hI_.2.2.1
    have h0 := hI_.2.2.2.1
    have h1 := hI_.2.2.2.2.1
    have h2 := hI_.2.2.2.2.2.1
    have h3 := hI_.2.2.2.2.2.2.1
    have h4 := hI_.2.2.2.2.2.2.2.1
    have h5 := hI_.2.2.2.2.2.2.2.2.1
    have h6 := hI_.2.2.2.2.2.2.2.2.2.1
    have h7 := hI_.2.2.2.2.2.2.2.2.2.2.1
    have h8 := hI_.2.2.2.2.2.2.2.2.2.2.2.1
    have h9 := hI_.2.2.2.2.2.2.2.2.2.2.2.2.1
    have h10 := hI_.2.2.2.2.2.2.2.2.2.2.2.2.2.1
    have h11 := hI_.2.2.2.2.2.2.2.2.2.2.2.2.2.2.1
    have h12 := hI_.2.2.2.2.2.2.2.2.2.2.2.2.2.2.2.1
    have h13 := hI_.2.2.2.2.2.2.2.2.2.2.2.2.2.2.2.2.1
    have h14 := hI_.2.2.2.2.2.2.2.2.2.2.2.2.2.2.2.2.2.1
    have h15 := hI_.2.2.2.2.2.2.2.2.2.2.2.2.2.2.2.2.2.2.1
    have h16 := hI_.2.2.2.2.2.2.2.2.2.2.2.2.2.2.2.2.2.2.2
    have e10 := h10 (hd_ 1 10 (by kernel_rfl))
    have e12 := h12 (hd_ 1 12 (by kernel_rfl))
    have wB0 : w_.heap[b1]? = some (.cells (RWs EA EC key y1 (bif dn_ 16 then false else y2)) 60 (0, 0)) := by rw [hd0_] at wB; exact wB
    rw [if_pos (by rfl)]
    refine wp_store_part 2 _ _ rfl b1 (lo * 3 + 1) (.int .i64 moment) [.int .i64 moment] ?_ ?_ rfl (by simp [Value.oneCell']) 60 _ (RWs EA EC key moment (bif dn_ 16 then false else y2)) wB0 (RWs_size _ _ _ _ _ lo 1 HEA.out (by decide)) (by kernel_rfl) (rwas _ _ _ _ _ _ lo HEA.out) ?_
    · exact e12
    · exact e10
    · exact hK.out _ undef _ rfl ⟨((setRow_ne _ _ _ _ HGB.out).trans wG), (setRow_heap _ b1 _ _ _ _ wB0), (wF.set b1 _ HSB.out), h0, h1, h2, h3, h4, h5, h6, h7, h8, h9, h10, h11, h12, (fun _ => trivial), h14, h15, h16⟩
  · -- 14
    have e8 := hI_.2.2.2.2.2.2.2.2.2.2.2.1 (hd_ 1 8 (by kernel_rfl))
    have e9 := hI_.2.2.2.2.2.2.2.2.2.2.2.2.1 (hd_ 1 9 (by kernel_rfl))
    refine val_ (w1 := w_) (v := .pointer (some ⟨b1, lo * 3, none⟩)) (by rfl) rfl ?_ (hK.out _ _ _ rfl ⟨hI_.1, hI_.2.1, hI_.2.2.1, hI_.2.2.2.1, hI_.2.2.2.2.1, hI_.2.2.2.2.2.1, hI_.2.2.2.2.2.2.1, hI_.2.2.2.2.2.2.2.1, hI_.2.2.2.2.2.2.2.2.1, hI_.2.2.2.2.2.2.2.2.2.1, hI_.2.2.2.2.2.2.2.2.2.2.1, hI_.2.2.2.2.2.2.2.2.2.2.2.1, hI_.2.2.2.2.2.2.2.2.2.2.2.2.1, hI_.2.2.2.2.2.2.2.2.2.2.2.2.2.1, hI_.2.2.2.2.2.2.2.2.2.2.2.2.2.2.1, hI_.2.2.2.2.2.2.2.2.2.2.2.2.2.2.2.1, hI_.2.2.2.2.2.2.2.2.2.2.2.2.2.2.2.2.1, (fun _ => rfl), hI_.2.2.2.2.2.2.2.2.2.2.2.2.2.2.2.2.2.2.1, hI_.2.2.2.2.2.2.2.2.2.2.2.2.2.2.2.2.2.2.2⟩)
    go_simp
    all_goals (first | decide | rfl)
  · -- 15
    have e14 := hI_.2.2.2.2.2.2.2.2.2.2.2.2.2.2.2.2.2.1 (hd_ 1 14 (by kernel_rfl))
    refine val_ (w1 := w_) (v := .pointer (some ⟨b1, lo * 3 + 2, none⟩)) (by rfl) rfl ?_ (hK.out _ _ _ rfl ⟨hI_.1, hI_.2.1, hI_.2.2.1, hI_.2.2.2.1, hI_.2.2.2.2.1, hI_.2.2.2.2.2.1, hI_.2.2.2.2.2.2.1, hI_.2.2.2.2.2.2.2.1, hI_.2.2.2.2.2.2.2.2.1, hI_.2.2.2.2.2.2.2.2.2.1, hI_.2.2.2.2.2.2.2.2.2.2.1, hI_.2.2.2.2.2.2.2.2.2.2.2.1, hI_.2.2.2.2.2.2.2.2.2.2.2.2.1, hI_.2.2.2.2.2.2.2.2.2.2.2.2.2.1, hI_.2.2.2.2.2.2.2.2.2.2.2.2.2.2.1, hI_.2.2.2.2.2.2.2.2.2.2.2.2.2.2.2.1, hI_.2.2.2.2.2.2.2.2.2.2.2.2.2.2.2.2.1, hI_.2.2.2.2.2.2.2.2.2.2.2.2.2.2.2.2.2.1, (fun _ => rfl), hI_.2.2.2.2.2.2.2.2.2.2.2.2.2.2.2.2.2.2.2⟩)
    go_simp
    all_goals (first | decide | rfl)
  · -- 16
    have wG := hI_.1
    have wB := hI_.2.1
    have wF := hI_.2.2.1
    have h0 := hI_.2.2.2.1
    have h1 := hI_.2.2.2.2.1
    have h2 := hI_.2.2.2.2.2.1
    have h3 := hI_.2.2.2.2.2.2.1
    have h4 := hI_.2.2.2.2.2.2.2.1
    have h5 := hI_.2.2.2.2.2.2.2.2.1
    have h6 := hI_.2.2.2.2.2.2.2.2.2.1
    have h7 := hI_.2.2.2.2.2.2.2.2.2.2.1
    have h8 := hI_.2.2.2.2.2.2.2.2.2.2.2.1
    have h9 := hI_.2.2.2.2.2.2.2.2.2.2.2.2.1
    have h10 := hI_.2.2.2.2.2.2.2.2.2.2.2.2.2.1
    have h11 := hI_.2.2.2.2.2.2.2.2.2.2.2.2.2.2.1
    have h12 := hI_.2.2.2.2.2.2.2.2.2.2.2.2.2.2.2.1
    have h13 := hI_.2.2.2.2.2.2.2.2.2.2.2.2.2.2.2.2.1
    have h14 := hI_.2.2.2.2.2.2.2.2.2.2.2.2.2.2.2.2.2.1
    have h15 := hI_.2.2.2.2.2.2.2.2.2.2.2.2.2.2.2.2.2.2.1
    have h16 := hI_.2.2.2.2.2.2.2.2.2.2.2.2.2.2.2.2.2.2.2
    have e15 := h15 (hd_ 1 15 (by kernel_rfl))
    have wB0 : w_.heap[b1]? = some (.cells (RWs EA EC key (bif dn_ 13 then moment else y1) y2) 60 (0, 0)) := by rw [hd0_] at wB; exact wB
    rw [if_pos (by rfl)]
    refine wp_store_part 4 _ _ rfl b1 (lo * 3 + 2) (.bool false) [.bool false] ?_ ?_ rfl (by simp [Value.oneCell']) 60 _ (RWs EA EC key (bif dn_ 13 then moment else y1) false) wB0 (RWs_size _ _ _ _ _ lo 2 HEA.out (by decide)) (by kernel_rfl) (rwbs _ _ _ _ _ _ lo HEA.out) ?_
    · exact e15
    · rfl
    · exact hK.out _ undef _ rfl ⟨((setRow_ne _ _ _ _ HGB.out).trans wG), (setRow_heap _ b1 _ _ _ _ wB0), (wF.set b1 _ HSB.out), h0, h1, h2, h3, h4, h5, h6, h7, h8, h9, h10, h11, h12, h13, h14, h15, (fun _ => trivial)⟩
  intro dn_ X w9 hdn_ hI_
  obtain ⟨wG, wB, wF, h0, h1, h2, h3, h4, h5, h6, h7, h8, h9, h10, h11, h12, h13, h14, h15, h16⟩ := hI_
  rw [hdn_ 13 (by decide), hdn_ 16 (by decide)] at wB
  have K9 := Aside0.mk (And.intro wG (And.intro (show w9.heap[b1]? = some (.cells (RWs EA EC key moment false) 60 (0, 0)) from wB) wF))
  clear wG wB wF h0 h1 h2 h3 h4 h5 h6 h7 h8 h9 h10 h11 h12 h13 h14 h15 h16 hdn_
  go_wp2
  go_end0
  exact ⟨rfl, HEND.out _ K9.out.1 K9.out.2.1 K9.out.2.2⟩
set_option maxHeartbeats 4000000 in
set_option maxRecDepth 100000 in
theorem accepts_new (w : World) (g b : Nat) (es : List S60) (room span : Int) (key : ByteArray) (moment : Int) (H : Tabs w g b es room span) (hS : Rises es) (hn : es.length ≤ 1000000) (hr1 : 1 ≤ room) (hr2 : room ≤ 1024) (hh : hass es key = false) :
    Calls Try.prog 42 #[.pointer (some ⟨g, 0, none⟩), .string key, .int .i64 moment] w fun e w' => e = .returned (.tuple #[]) ∧ ∃ b', Tabs w' g b' (accs es key moment room) room span ∧ (b' = b ∨ w.heap.size ≤ b') ∧ Fr (fun k => k = g ∨ k = b) w w' := by
  have HP := Aside0.mk (fun W (hW : Tabs W g b es room span) => places_c W g b es room span key hW hS hn)
  rw [hh] at HP
  obtain ⟨m, hm⟩ : ∃ m : Nat, (room - 1).toNat = m := ⟨_, rfl⟩
  obtain ⟨es1, he1⟩ : ∃ es1, cuts (es.length - m) es = es1 := ⟨_, rfl⟩
  have HTR := Aside0.mk (fun W (hW : Tabs W g b es room span) => trims_c W g b es room span m hW hS hn)
  rw [he1] at HTR
  have hS1 : Rises es1 := he1 ▸ cuts_rise _ es hS
  have hn1 : es1.length ≤ 1000000 := by have := (cuts_sub (es.length - m) es).length_le; rw [he1] at this; omega
  have hh1 : hass es1 key = false := he1 ▸ cuts_has _ es key hS hh
  have HP2 := Aside0.mk (fun W (hW : Tabs W g b es1 room span) => places_c W g b es1 room span key hW hS1 hn1)
  rw [hh1] at HP2
  have ha : accs es key moment room = es1.take (lows es1 key) ++ ⟨key, moment, false⟩ :: es1.drop (lows es1 key) := by unfold accs putIns; rw [hh, hm, he1]; rfl
  have hle := lows_le es1 key
  obtain ⟨lo, hlo⟩ : ∃ lo, lows es1 key = lo := ⟨_, rfl⟩
  rw [hlo] at HP2 ha hle
  have HA := Aside0.mk ha
  have HLE := Aside0.mk hle
  have HN1 := Aside0.mk hn1
  have HT := Aside0.mk H
  have HF := Aside0.mk (Fr.refl (fun k => k = g ∨ k = b) w)
  have hw1 : wrap64 (room - 1) = ((m : Nat) : Int) := by rw [wrap64_id (by unfold I64; omega)]; omega
  clear hS hn ha hlo H hm he1 hS1 hn1 hh1 hle hr1 hr2 hh
  go_enter Try.func42, Try.ntmps42
  go_upto_region 2 with (first | (go_at_call 43; refine (HP.out _ HT.out).mono ?_; rintro e_ w1 ⟨rfl, hb_⟩; have HT := Aside0.mk (HT.out.below hb_); have HF := Aside0.mk (HF.out.below hb_); clear hb_) | fail)
  have hcr : w1.cell? ⟨g, 1, none⟩ = some (.int .i64 room) := by
    obtain ⟨sl, hg, _⟩ := HT.out
    exact (blk_cell hg 1).trans rfl
  go_upto_region 3 with (first | (go_at_call 44; refine (HTR.out _ HT.out).mono ?_; rintro e_ w2 ⟨rfl, ht_, hf_⟩; have HT := Aside0.mk ht_; have HF := Aside0.mk (HF.out.trans hf_ (fun j hj => .inl hj)); clear ht_ hf_) | fail)
  clear hcr
  go_upto_region 5 with (first | (go_at_call 43; refine (HP2.out _ HT.out).mono ?_; rintro e_ w3 ⟨rfl, hb_⟩; have HT := Aside0.mk (HT.out.below hb_); have HF := Aside0.mk (HF.out.below hb_); clear hb_) | fail)
  obtain ⟨sl, hg_, hs_⟩ := HT.out
  have hcell : w3.cell? ⟨g, 0, none⟩ = some sl := (blk_cell hg_ 0).trans rfl
  have HG := Aside0.mk hg_
  have HS := Aside0.mk hs_
  clear hg_ hs_
  have hbl : b < w3.heap.size := by
    rcases HS.out with ⟨_, _, rfl⟩ | ⟨_, c, rest, _, hr, _⟩
    · exact blk_lt HG.out
    · exact blk_lt hr
  have HI := Aside0.mk (inserts_c (w3.alloc (.cells #[.string key, .int .i64 0, .bool false] 60)) g b w3.heap.size sl es1 lo ⟨key, 0, false⟩ (HS.out.below (below_alloc (Below.refl _ _) _)) HLE.out (blk_new _ _) (by omega) HN1.out)
  have HGA := Aside0.mk (blk_alloc HG.out (.cells #[.string key, .int .i64 0, .bool false] 60))
  have HFA := Aside0.mk (HF.out.alloc (.cells #[.string key, .int .i64 0, .bool false] 60))
  clear hbl
  obtain ⟨n1, hn1⟩ : ∃ n1, (es1.take lo ++ (⟨key, 0, false⟩ : S60) :: es1.drop lo).length = n1 := ⟨_, rfl⟩
  have HNN := Aside0.mk hn1
  clear hn1
  have HFIN : ∀ (b0 b1 c1 : Nat) (rest1 : List Value) (w5 : World), ((b0 = b ∧ b ≠ g) ∨ (w3.alloc (.cells #[.string key, .int .i64 0, .bool false] 60)).heap.size ≤ b0) → Rows w5 b1 (es1.take lo ++ (⟨key, 0, false⟩ : S60) :: es1.drop lo) rest1 → (encss (es1.take lo ++ (⟨key, 0, false⟩ : S60) :: es1.drop lo) ++ rest1).length = c1 * 3 → c1 ≤ 9223372036854775807 → (b1 = b0 ∨ (w3.alloc (.cells #[.string key, .int .i64 0, .bool false] 60)).heap.size ≤ b1) →
      Fr (fun k => k = b0) (w3.alloc (.cells #[.string key, .int .i64 0, .bool false] 60)) w5 →
      w5.heap[g]? = some (.cells #[sl, .int .i64 room, .int .i64 span] 88 (0, 0)) ∧ w5.heap[b1]? = some (.cells (RWs (encss (es1.take lo)) (encss (es1.drop lo) ++ rest1) key 0 false) 60 (0, 0)) ∧ Fr (fun k => k = g ∨ k = b) w w5 ∧ g ≠ b1 ∧ (encss (es1.take lo)).length = lo * 3 ∧ (lo : Int) < (n1 : Int) ∧ ((b1 = g ∨ b1 = b) ∨ w.heap.size ≤ b1) ∧
      (∀ W : World, W.heap[g]? = some (.cells #[.slice (some ⟨b1, 0, none⟩) n1 c1, .int .i64 room, .int .i64 span] 88 (0, 0)) → W.heap[b1]? = some (.cells (RWs (encss (es1.take lo)) (encss (es1.drop lo) ++ rest1) key moment false) 60 (0, 0)) → Fr (fun k => k = g ∨ k = b) w W → ∃ b', Tabs W g b' (accs es key moment room) room span ∧ (b' = b ∨ w.heap.size ≤ b') ∧ Fr (fun k => k = g ∨ k = b) w W) := by
    intro b0 b1 c1 rest1 w5 hb0 hr hl hc hb1 hf
    have hsz : w3.heap.size ≤ (w3.alloc (.cells #[.string key, .int .i64 0, .bool false] 60)).heap.size := (below_alloc (Below.refl _ _) _).size
    have hgl := blk_lt HG.out
    have hws := HF.out.size
    have hgb0 : g ≠ b0 := by
      rcases hb0 with ⟨rfl, h⟩ | h
      · exact fun e => h e.symm
      · omega
    have hgb1 : g ≠ b1 := by
      rcases hb1 with rfl | h
      · exact hgb0
      · omega
    have hbb : b1 = b ∨ w.heap.size ≤ b1 := by
      rcases hb1 with rfl | h
      · rcases hb0 with ⟨rfl, _⟩ | h2
        · exact .inl rfl
        · exact .inr (by omega)
      · exact .inr (by omega)
    have hn1 := HNN.out
    have hle := HLE.out
    have hlen : n1 = es1.length + 1 := by
      rw [← hn1, List.length_append, List.length_cons, List.length_take, List.length_drop]
      omega
    have hn2 : (es1.take lo ++ (⟨key, moment, false⟩ : S60) :: es1.drop lo).length = n1 := by
      rw [← hn1, List.length_append, List.length_append, List.length_cons, List.length_cons]
    refine ⟨(hf.block g (blk_lt HGA.out) hgb0).trans HGA.out, by rw [show _ = _ from hr, RWs_row], HFA.out.trans hf (fun j hj => ?_), hgb1, by rw [encss_len, List.length_take]; omega, by omega, hbb.elim (fun h => .inl (.inr h)) .inr, fun W h1 h2 h3 => ⟨b1, ⟨_, h1, .inr ⟨hgb1.symm, c1, rest1, ?_, ?_, ?_, hc⟩⟩, hbb, h3⟩⟩
    · subst hj
      rcases hb0 with ⟨rfl, _⟩ | h2
      · exact .inl (.inr rfl)
      · exact .inr (by omega)
    · rw [HA.out, hn2]
    · rw [HA.out]
      show _ = _
      rw [h2, RWs_row]
    · rw [HA.out, ← hl]
      simp only [List.length_append, encss_len, List.length_cons]
  have HFI := Aside0.mk HFIN
  clear HFIN
  obtain ⟨EA, hEA⟩ : ∃ EA, encss (es1.take lo) = EA := ⟨_, rfl⟩
  rw [hEA] at HFI
  clear hEA
  go_upto_region 6 with (first | (go_at_call 60; refine HI.out.mono ?_; rintro e_ w5 ⟨b0, hb0, b1, c1, rest1, rfl, hr_, hl_, hc_, hb_, hf_⟩; have HX_ := Aside0.mk (HFI.out b0 b1 c1 rest1 w5 hb0 hr_ hl_ hc_ hb_ hf_); clear hb0 hr_ hl_ hc_ hb_ hf_ hcell; rw [HNN.out]) | ((with_reducible refine gate_store (t := 52) (p := 44) rfl ?_); refine store_part rfl 52 _ _ rfl rfl g 0 (.slice (some ⟨b1, 0, none⟩) n1 c1) [.slice (some ⟨b1, 0, none⟩) n1 c1] rfl rfl rfl (by simp [Value.oneCell']) 88 _ #[.slice (some ⟨b1, 0, none⟩) n1 c1, .int .i64 room, .int .i64 span] HX_.out.1 (by simp) (by kernel_rfl) (by rfl) ?_) | fail)
  obtain ⟨x1, x2, x3, x4, x5, x6, x7, x8⟩ := HX_.out
  obtain ⟨EC, hEC⟩ : ∃ EC, encss (es1.drop lo) ++ rest1 = EC := ⟨_, rfl⟩
  rw [hEC] at x2 x8
  have K6 := Aside0.mk (And.intro (setRow_heap w5 g _ #[.slice (some ⟨b1, 0, none⟩) n1 c1, .int .i64 room, .int .i64 span] _ _ x1) (And.intro ((setRow_ne w5 g b1 #[.slice (some ⟨b1, 0, none⟩) n1 c1, .int .i64 room, .int .i64 span] x4.symm).trans x2) (x3.set g #[.slice (some ⟨b1, 0, none⟩) n1 c1, .int .i64 room, .int .i64 span] (.inl (.inl rfl)))))
  have HGB := Aside0.mk x4
  have HEA := Aside0.mk x5
  have hlt1 := x6
  have HSB := Aside0.mk x7
  have HEND := Aside0.mk x8
  clear x1 x2 x3 x4 x5 x6 x7 x8 HX_ HFI HI HGA HFA HG HS HT HF hEC
  generalize w5.setRow g #[.slice (some ⟨b1, 0, none⟩) n1 c1, .int .i64 room, .int .i64 span] = w6 at K6 ⊢
  obtain ⟨y1, hy1⟩ : ∃ y1 : Int, (0 : Int) = y1 := ⟨_, rfl⟩
  obtain ⟨y2, hy2⟩ : ∃ y2 : Bool, false = y2 := ⟨_, rfl⟩
  have K6 := Aside0.mk (show w6.heap[g]? = some (.cells #[.slice (some ⟨b1, 0, none⟩) n1 c1, .int .i64 room, .int .i64 span] 88 (0, 0)) ∧ w6.heap[b1]? = some (.cells (RWs EA EC key y1 y2) 60 (0, 0)) ∧ Fr (fun k => k = g ∨ k = b) w w6 from by rw [← hy1, ← hy2]; exact K6.out)
  clear hy1 hy2
  refine region_inv (T := ?T6) [some 45, some 46, some 47, some 48, some 49, some 50, some 51, some 52, some 53, some 54, some 55, some 56, some 57, none, some 58, some 59, none] ?hT6 (fun dn_ X w_ => w_.heap[g]? = some (.cells #[.slice (some ⟨b1, 0, none⟩) n1 c1, .int .i64 room, .int .i64 span] 88 (0, 0)) ∧ w_.heap[b1]? = some (.cells (RWs EA EC key (bif dn_ 13 then moment else y1) (bif dn_ 16 then false else y2)) 60 (0, 0)) ∧ Fr (fun k => k = g ∨ k = b) w w_ ∧ (dn_ 0 = true → X 0 = .pointer (some ⟨g, 0, none⟩)) ∧ (dn_ 1 = true → X 1 = .pointer (some ⟨g, 0, none⟩)) ∧ (dn_ 2 = true → X 2 = .pointer (some ⟨g, 0, none⟩)) ∧ (dn_ 3 = true → X 3 = .slice (some ⟨b1, 0, none⟩) n1 c1) ∧ (dn_ 4 = true → X 4 = .int .i64 lo) ∧ (dn_ 5 = true → X 5 = .pointer (some ⟨g, 0, none⟩)) ∧ (dn_ 6 = true → X 6 = .pointer (some ⟨g, 0, none⟩)) ∧ (dn_ 7 = true → X 7 = .pointer (some ⟨g, 0, none⟩)) ∧ (dn_ 8 = true → X 8 = .slice (some ⟨b1, 0, none⟩) n1 c1) ∧ (dn_ 9 = true → X 9 = .int .i64 lo) ∧ (dn_ 10 = true → X 10 = .int .i64 moment) ∧ (dn_ 11 = true → X 11 = .pointer (some ⟨b1, lo * 3, none⟩)) ∧ (dn_ 12 = true → X 12 = .pointer (some ⟨b1, lo * 3 + 1, none⟩)) ∧ (dn_ 13 = true → True) ∧ (dn_ 14 = true → X 14 = .pointer (some ⟨b1, lo * 3, none⟩)) ∧ (dn_ 15 = true → X 15 = .pointer (some ⟨b1, lo * 3 + 2, none⟩)) ∧ (dn_ 16 = true → True)) (by kernel_rfl) (by kernel_rfl) (by rfl) [0, 1, 2, 3, 4, 5, 6, 7, 8, 9, 10, 11, 12, 13, 14, 15, 16] rfl (.cons (some 45) rfl rfl (fun dn_ X w_ hd0_ hd_ hI_ K hK => ?_) (.cons (some 46) rfl rfl (fun dn_ X w_ hd0_ hd_ hI_ K hK => ?_) (.cons (some 47) rfl rfl (fun dn_ X w_ hd0_ hd_ hI_ K hK => ?_) (.cons (some 48) rfl rfl (fun dn_ X w_ hd0_ hd_ hI_ K hK => ?_) (.cons (some 49) rfl rfl (fun dn_ X w_ hd0_ hd_ hI_ K hK => ?_) (.cons (some 50) rfl rfl (fun dn_ X w_ hd0_ hd_ hI_ K hK => ?_) (.cons (some 51) rfl rfl (fun dn_ X w_ hd0_ hd_ hI_ K hK => ?_) (.cons (some 52) rfl rfl (fun dn_ X w_ hd0_ hd_ hI_ K hK => ?_) (.cons (some 53) rfl rfl (fun dn_ X w_ hd0_ hd_ hI_ K hK => ?_) (.cons (some 54) rfl rfl (fun dn_ X w_ hd0_ hd_ hI_ K hK => ?_) (.cons (some 55) rfl rfl (fun dn_ X w_ hd0_ hd_ hI_ K hK => ?_) (.cons (some 56) rfl rfl (fun dn_ X w_ hd0_ hd_ hI_ K hK => ?_) (.cons (some 57) rfl rfl (fun dn_ X w_ hd0_ hd_ hI_ K hK => ?_) (.cons none rfl rfl (fun dn_ X w_ hd0_ hd_ hI_ K hK => ?_) (.cons (some 58) rfl rfl (fun dn_ X w_ hd0_ hd_ hI_ K hK => ?_) (.cons (some 59) rfl rfl (fun dn_ X w_ hd0_ hd_ hI_ K hK => ?_) (.cons none rfl rfl (fun dn_ X w_ hd0_ hd_ hI_ K hK => ?_) .nil))))))))))))))))) ?h06 ?hend6
  case hT6 =>
    intro X
    simp only [fill, Act.put, List.setIfInBounds_toArray, List.set_cons_zero, List.set_cons_succ, Nat.zero_add, Nat.reduceAdd]
    rfl
  case h06 =>
    exact ⟨K6.out.1, K6.out.2.1, K6.out.2.2.drew, (fun h => by cases h), (fun h => by cases h), (fun h => by cases h), (fun h => by cases h), (fun h => by cases h), (fun h => by cases h), (fun h => by cases h), (fun h => by cases h), (fun h => by cases h), (fun h => by cases h), (fun h => by cases h), (fun h => by cases h), (fun h => by cases h), (fun h => by cases h), (fun h => by cases h), (fun h => by cases h), (fun h => by cases h)⟩
  · -- 0
    refine val_ (w1 := w_) (v := .pointer (some ⟨g, 0, none⟩)) (by rfl) rfl ?_ (hK.out _ _ _ rfl ⟨hI_.1, hI_.2.1, hI_.2.2.1, (fun _ => rfl), hI_.2.2.2.2.1, hI_.2.2.2.2.2.1, hI_.2.2.2.2.2.2.1, hI_.2.2.2.2.2.2.2.1, hI_.2.2.2.2.2.2.2.2.1, hI_.2.2.2.2.2.2.2.2.2.1, hI_.2.2.2.2.2.2.2.2.2.2.1, hI_.2.2.2.2.2.2.2.2.2.2.2.1, hI_.2.2.2.2.2.2.2.2.2.2.2.2.1, hI_.2.2.2.2.2.2.2.2.2.2.2.2.2.1, hI_.2.2.2.2.2.2.2.2.2.2.2.2.2.2.1, hI_.2.2.2.2.2.2.2.2.2.2.2.2.2.2.2.1, hI_.2.2.2.2.2.2.2.2.2.2.2.2.2.2.2.2.1, hI_.2.2.2.2.2.2.2.2.2.2.2.2.2.2.2.2.2.1, hI_.2.2.2.2.2.2.2.2.2.2.2.2.2.2.2.2.2.2.1, hI_.2.2.2.2.2.2.2.2.2.2.2.2.2.2.2.2.2.2.2⟩)
    go_simp
    all_goals (first | decide | rfl)
  · -- 1
    have e0 := hI_.2.2.2.1 (hd_ 1 0 (by kernel_rfl))
    refine val_ (w1 := w_) (v := .pointer (some ⟨g, 0, none⟩)) (by rfl) rfl ?_ (hK.out _ _ _ rfl ⟨hI_.1, hI_.2.1, hI_.2.2.1, hI_.2.2.2.1, (fun _ => rfl), hI_.2.2.2.2.2.1, hI_.2.2.2.2.2.2.1, hI_.2.2.2.2.2.2.2.1, hI_.2.2.2.2.2.2.2.2.1, hI_.2.2.2.2.2.2.2.2.2.1, hI_.2.2.2.2.2.2.2.2.2.2.1, hI_.2.2.2.2.2.2.2.2.2.2.2.1, hI_.2.2.2.2.2.2.2.2.2.2.2.2.1, hI_.2.2.2.2.2.2.2.2.2.2.2.2.2.1, hI_.2.2.2.2.2.2.2.2.2.2.2.2.2.2.1, hI_.2.2.2.2.2.2.2.2.2.2.2.2.2.2.2.1, hI_.2.2.2.2.2.2.2.2.2.2.2.2.2.2.2.2.1, hI_.2.2.2.2.2.2.2.2.2.2.2.2.2.2.2.2.2.1, hI_.2.2.2.2.2.2.2.2.2.2.2.2.2.2.2.2.2.2.1, hI_.2.2.2.2.2.2.2.2.2.2.2.2.2.2.2.2.2.2.2⟩)
    go_simp
    all_goals (first | decide | rfl)
  · -- 2
    have e1 := hI_.2.2.2.2.1 (hd_ 1 1 (by kernel_rfl))
    refine val_ (w1 := w_) (v := .pointer (some ⟨g, 0, none⟩)) (by rfl) rfl ?_ (hK.out _ _ _ rfl ⟨hI_.1, hI_.2.1, hI_.2.2.1, hI_.2.2.2.1, hI_.2.2.2.2.1, (fun _ => rfl), hI_.2.2.2.2.2.2.1, hI_.2.2.2.2.2.2.2.1, hI_.2.2.2.2.2.2.2.2.1, hI_.2.2.2.2.2.2.2.2.2.1, hI_.2.2.2.2.2.2.2.2.2.2.1, hI_.2.2.2.2.2.2.2.2.2.2.2.1, hI_.2.2.2.2.2.2.2.2.2.2.2.2.1, hI_.2.2.2.2.2.2.2.2.2.2.2.2.2.1, hI_.2.2.2.2.2.2.2.2.2.2.2.2.2.2.1, hI_.2.2.2.2.2.2.2.2.2.2.2.2.2.2.2.1, hI_.2.2.2.2.2.2.2.2.2.2.2.2.2.2.2.2.1, hI_.2.2.2.2.2.2.2.2.2.2.2.2.2.2.2.2.2.1, hI_.2.2.2.2.2.2.2.2.2.2.2.2.2.2.2.2.2.2.1, hI_.2.2.2.2.2.2.2.2.2.2.2.2.2.2.2.2.2.2.2⟩)
    go_simp
    all_goals (first | decide | rfl)
  · -- 3
    have wG := hI_.1
    have e2 := hI_.2.2.2.2.2.1 (hd_ 1 2 (by kernel_rfl))
    have z0_ := (blk_cell wG 0).trans (show (#[.slice (some ⟨b1, 0, none⟩) n1 c1, .int .i64 room, .int .i64 span] : Array Value)[0]? = some (.slice (some ⟨b1, 0, none⟩) n1 c1) from rfl)
    refine val_ (w1 := w_) (v := .slice (some ⟨b1, 0, none⟩) n1 c1) (by rfl) rfl ?_ (hK.out _ _ _ rfl ⟨hI_.1, hI_.2.1, hI_.2.2.1, hI_.2.2.2.1, hI_.2.2.2.2.1, hI_.2.2.2.2.2.1, (fun _ => rfl), hI_.2.2.2.2.2.2.2.1, hI_.2.2.2.2.2.2.2.2.1, hI_.2.2.2.2.2.2.2.2.2.1, hI_.2.2.2.2.2.2.2.2.2.2.1, hI_.2.2.2.2.2.2.2.2.2.2.2.1, hI_.2.2.2.2.2.2.2.2.2.2.2.2.1, hI_.2.2.2.2.2.2.2.2.2.2.2.2.2.1, hI_.2.2.2.2.2.2.2.2.2.2.2.2.2.2.1, hI_.2.2.2.2.2.2.2.2.2.2.2.2.2.2.2.1, hI_.2.2.2.2.2.2.2.2.2.2.2.2.2.2.2.2.1, hI_.2.2.2.2.2.2.2.2.2.2.2.2.2.2.2.2.2.1, hI_.2.2.2.2.2.2.2.2.2.2.2.2.2.2.2.2.2.2.1, hI_.2.2.2.2.2.2.2.2.2.2.2.2.2.2.2.2.2.2.2⟩)
    go_simp
    all_goals (first | decide | rfl)
  · -- 4
    refine val_ (w1 := w_) (v := .int .i64 lo) (by rfl) rfl ?_ (hK.out _ _ _ rfl ⟨hI_.1, hI_.2.1, hI_.2.2.1, hI_.2.2.2.1, hI_.2.2.2.2.1, hI_.2.2.2.2.2.1, hI_.2.2.2.2.2.2.1, (fun _ => rfl), hI_.2.2.2.2.2.2.2.2.1, hI_.2.2.2.2.2.2.2.2.2.1, hI_.2.2.2.2.2.2.2.2.2.2.1, hI_.2.2.2.2.2.2.2.2.2.2.2.1, hI_.2.2.2.2.2.2.2.2.2.2.2.2.1, hI_.2.2.2.2.2.2.2.2.2.2.2.2.2.1, hI_.2.2.2.2.2.2.2.2.2.2.2.2.2.2.1, hI_.2.2.2.2.2.2.2.2.2.2.2.2.2.2.2.1, hI_.2.2.2.2.2.2.2.2.2.2.2.2.2.2.2.2.1, hI_.2.2.2.2.2.2.2.2.2.2.2.2.2.2.2.2.2.1, hI_.2.2.2.2.2.2.2.2.2.2.2.2.2.2.2.2.2.2.1, hI_.2.2.2.2.2.2.2.2.2.2.2.2.2.2.2.2.2.2.2⟩)
    go_simp
    all_goals (first | decide | rfl)
  · -- 5
    refine val_ (w1 := w_) (v := .pointer (some ⟨g, 0, none⟩)) (by rfl) rfl ?_ (hK.out _ _ _ rfl ⟨hI_.1, hI_.2.1, hI_.2.2.1, hI_.2.2.2.1, hI_.2.2.2.2.1, hI_.2.2.2.2.2.1, hI_.2.2.2.2.2.2.1, hI_.2.2.2.2.2.2.2.1, (fun _ => rfl), hI_.2.2.2.2.2.2.2.2.2.1, hI_.2.2.2.2.2.2.2.2.2.2.1, hI_.2.2.2.2.2.2.2.2.2.2.2.1, hI_.2.2.2.2.2.2.2.2.2.2.2.2.1, hI_.2.2.2.2.2.2.2.2.2.2.2.2.2.1, hI_.2.2.2.2.2.2.2.2.2.2.2.2.2.2.1, hI_.2.2.2.2.2.2.2.2.2.2.2.2.2.2.2.1, hI_.2.2.2.2.2.2.2.2.2.2.2.2.2.2.2.2.1, hI_.2.2.2.2.2.2.2.2.2.2.2.2.2.2.2.2.2.1, hI_.2.2.2.2.2.2.2.2.2.2.2.2.2.2.2.2.2.2.1, hI_.2.2.2.2.2.2.2.2.2.2.2.2.2.2.2.2.2.2.2⟩)
    go_simp
    all_goals (first | decide | rfl)
  · -- 6
    have e5 := hI_.2.2.2.2.2.2.2.2.1 (hd_ 1 5 (by kernel_rfl))
    refine val_ (w1 := w_) (v := .pointer (some ⟨g, 0, none⟩)) (by rfl) rfl ?_ (hK.out _ _ _ rfl ⟨hI_.1, hI_.2.1, hI_.2.2.1, hI_.2.2.2.1, hI_.2.2.2.2.1, hI_.2.2.2.2.2.1, hI_.2.2.2.2.2.2.1, hI_.2.2.2.2.2.2.2.1, hI_.2.2.2.2.2.2.2.2.1, (fun _ => rfl), hI_.2.2.2.2.2.2.2.2.2.2.1, hI_.2.2.2.2.2.2.2.2.2.2.2.1, hI_.2.2.2.2.2.2.2.2.2.2.2.2.1, hI_.2.2.2.2.2.2.2.2.2.2.2.2.2.1, hI_.2.2.2.2.2.2.2.2.2.2.2.2.2.2.1, hI_.2.2.2.2.2.2.2.2.2.2.2.2.2.2.2.1, hI_.2.2.2.2.2.2.2.2.2.2.2.2.2.2.2.2.1, hI_.2.2.2.2.2.2.2.2.2.2.2.2.2.2.2.2.2.1, hI_.2.2.2.2.2.2.2.2.2.2.2.2.2.2.2.2.2.2.1, hI_.2.2.2.2.2.2.2.2.2.2.2.2.2.2.2.2.2.2.2⟩)
    go_simp
    all_goals (first | decide | rfl)
  · -- 7
    have e6 := hI_.2.2.2.2.2.2.2.2.2.1 (hd_ 1 6 (by kernel_rfl))
    refine val_ (w1 := w_) (v := .pointer (some ⟨g, 0, none⟩)) (by rfl) rfl ?_ (hK.out _ _ _ rfl ⟨hI_.1, hI_.2.1, hI_.2.2.1, hI_.2.2.2.1, hI_.2.2.2.2.1, hI_.2.2.2.2.2.1, hI_.2.2.2.2.2.2.1, hI_.2.2.2.2.2.2.2.1, hI_.2.2.2.2.2.2.2.2.1, hI_.2.2.2.2.2.2.2.2.2.1, (fun _ => rfl), hI_.2.2.2.2.2.2.2.2.2.2.2.1, hI_.2.2.2.2.2.2.2.2.2.2.2.2.1, hI_.2.2.2.2.2.2.2.2.2.2.2.2.2.1, hI_.2.2.2.2.2.2.2.2.2.2.2.2.2.2.1, hI_.2.2.2.2.2.2.2.2.2.2.2.2.2.2.2.1, hI_.2.2.2.2.2.2.2.2.2.2.2.2.2.2.2.2.1, hI_.2.2.2.2.2.2.2.2.2.2.2.2.2.2.2.2.2.1, hI_.2.2.2.2.2.2.2.2.2.2.2.2.2.2.2.2.2.2.1, hI_.2.2.2.2.2.2.2.2.2.2.2.2.2.2.2.2.2.2.2⟩)
    go_simp
    all_goals (first | decide | rfl)
  · -- 8
    have wG := hI_.1
    have e7 := hI_.2.2.2.2.2.2.2.2.2.2.1 (hd_ 1 7 (by kernel_rfl))
    have z0_ := (blk_cell wG 0).trans (show (#[.slice (some ⟨b1, 0, none⟩) n1 c1, .int .i64 room, .int .i64 span] : Array Value)[0]? = some (.slice (some ⟨b1, 0, none⟩) n1 c1) from rfl)
    refine val_ (w1 := w_) (v := .slice (some ⟨b1, 0, none⟩) n1 c1) (by rfl) rfl ?_ (hK.out _ _ _ rfl ⟨hI_.1, hI_.2.1, hI_.2.2.1, hI_.2.2.2.1, hI_.2.2.2.2.1, hI_.2.2.2.2.2.1, hI_.2.2.2.2.2.2.1, hI_.2.2.2.2.2.2.2.1, hI_.2.2.2.2.2.2.2.2.1, hI_.2.2.2.2.2.2.2.2.2.1, hI_.2.2.2.2.2.2.2.2.2.2.1, (fun _ => rfl), hI_.2.2.2.2.2.2.2.2.2.2.2.2.1, hI_.2.2.2.2.2.2.2.2.2.2.2.2.2.1, hI_.2.2.2.2.2.2.2.2.2.2.2.2.2.2.1, hI_.2.2.2.2.2.2.2.2.2.2.2.2.2.2.2.1, hI_.2.2.2.2.2.2.2.2.2.2.2.2.2.2.2.2.1, hI_.2.2.2.2.2.2.2.2.2.2.2.2.2.2.2.2.2.1, hI_.2.2.2.2.2.2.2.2.2.2.2.2.2.2.2.2.2.2.1, hI_.2.2.2.2.2.2.2.2.2.2.2.2.2.2.2.2.2.2.2⟩)
    go_simp
    all_goals (first | decide | rfl)
  · -- 9
    refine val_ (w1 := w_) (v := .int .i64 lo) (by rfl) rfl ?_ (hK.out _ _ _ rfl ⟨hI_.1, hI_.2.1, hI_.2.2.1, hI_.2.2.2.1, hI_.2.2.2.2.1, hI_.2.2.2.2.2.1, hI_.2.2.2.2.2.2.1, hI_.2.2.2.2.2.2.2.1, hI_.2.2.2.2.2.2.2.2.1, hI_.2.2.2.2.2.2.2.2.2.1, hI_.2.2.2.2.2.2.2.2.2.2.1, hI_.2.2.2.2.2.2.2.2.2.2.2.1, (fun _ => rfl), hI_.2.2.2.2.2.2.2.2.2.2.2.2.2.1, hI_.2.2.2.2.2.2.2.2.2.2.2.2.2.2.1, hI_.2.2.2.2.2.2.2.2.2.2.2.2.2.2.2.1, hI_.2.2.2.2.2.2.2.2.2.2.2.2.2.2.2.2.1, hI_.2.2.2.2.2.2.2.2.2.2.2.2.2.2.2.2.2.1, hI_.2.2.2.2.2.2.2.2.2.2.2.2.2.2.2.2.2.2.1, hI_.2.2.2.2.2.2.2.2.2.2.2.2.2.2.2.2.2.2.2⟩)
    go_simp
    all_goals (first | decide | rfl)
  · -- 10
    refine val_ (w1 := w_) (v := .int .i64 moment) (by rfl) rfl ?_ (hK.out _ _ _ rfl ⟨hI_.1, hI_.2.1, hI_.2.2.1, hI_.2.2.2.1, hI_.2.2.2.2.1, hI_.2.2.2.2.2.1, hI_.2.2.2.2.2.2.1, hI_.2.2.2.2.2.2.2.1, hI_.2.2.2.2.2.2.2.2.1, hI_.2.2.2.2.2.2.2.2.2.1, hI_.2.2.2.2.2.2.2.2.2.2.1, hI_.2.2.2.2.2.2.2.2.2.2.2.1, hI_.2.2.2.2.2.2.2.2.2.2.2.2.1, (fun _ => rfl), hI_.2.2.2.2.2.2.2.2.2.2.2.2.2.2.1, hI_.2.2.2.2.2.2.2.2.2.2.2.2.2.2.2.1, hI_.2.2.2.2.2.2.2.2.2.2.2.2.2.2.2.2.1, hI_.2.2.2.2.2.2.2.2.2.2.2.2.2.2.2.2.2.1, hI_.2.2.2.2.2.2.2.2.2.2.2.2.2.2.2.2.2.2.1, hI_.2.2.2.2.2.2.2.2.2.2.2.2.2.2.2.2.2.2.2⟩)
    go_simp
    all_goals (first | decide | rfl)
  · -- 11
    have e3 := hI_.2.2.2.2.2.2.1 (hd_ 1 3 (by kernel_rfl))
    have e4 := hI_.2.2.2.2.2.2.2.1 (hd_ 1 4 (by kernel_rfl))
    refine val_ (w1 := w_) (v := .pointer (some ⟨b1, lo * 3, none⟩)) (by rfl) rfl ?_ (hK.out _ _ _ rfl ⟨hI_.1, hI_.2.1, hI_.2.2.1, hI_.2.2.2.1, hI_.2.2.2.2.1, hI_.2.2.2.2.2.1, hI_.2.2.2.2.2.2.1, hI_.2.2.2.2.2.2.2.1, hI_.2.2.2.2.2.2.2.2.1, hI_.2.2.2.2.2.2.2.2.2.1, hI_.2.2.2.2.2.2.2.2.2.2.1, hI_.2.2.2.2.2.2.2.2.2.2.2.1, hI_.2.2.2.2.2.2.2.2.2.2.2.2.1, hI_.2.2.2.2.2.2.2.2.2.2.2.2.2.1, (fun _ => rfl), hI_.2.2.2.2.2.2.2.2.2.2.2.2.2.2.2.1, hI_.2.2.2.2.2.2.2.2.2.2.2.2.2.2.2.2.1, hI_.2.2.2.2.2.2.2.2.2.2.2.2.2.2.2.2.2.1, hI_.2.2.2.2.2.2.2.2.2.2.2.2.2.2.2.2.2.2.1, hI_.2.2.2.2.2.2.2.2.2.2.2.2.2.2.2.2.2.2.2⟩)
    go_simp
    all_goals (first | decide | rfl)
  · -- 12
    have e11 := hI_.2.2.2.2.2.2.2.2.2.2.2.2.2.2.1 (hd_ 1 11 (by kernel_rfl))
    refine val_ (w1 := w_) (v := .pointer (some ⟨b1, lo * 3 + 1, none⟩)) (by rfl) rfl ?_ (hK.out _ _ _ rfl ⟨hI_.1, hI_.2.1, hI_.2.2.1, hI_.2.2.2.1, hI_.2.2.2.2.1, hI_.2.2.2.2.2.1, hI_.2.2.2.2.2.2.1, hI_.2.2.2.2.2.2.2.1, hI_.2.2.2.2.2.2.2.2.1, hI_.2.2.2.2.2.2.2.2.2.1, hI_.2.2.2.2.2.2.2.2.2.2.1, hI_.2.2.2.2.2.2.2.2.2.2.2.1, hI_.2.2.2.2.2.2.2.2.2.2.2.2.1, hI_.2.2.2.2.2.2.2.2.2.2.2.2.2.1, hI_.2.2.2.2.2.2.2.2.2.2.2.2.2.2.1, (fun _ => rfl), hI_.2.2.2.2.2.2.2.2.2.2.2.2.2.2.2.2.1, hI_.2.2.2.2.2.2.2.2.2.2.2.2.2.2.2.2.2.1, hI_.2.2.2.2.2.2.2.2.2.2.2.2.2.2.2.2.2.2.1, hI_.2.2.2.2.2.2.2.2.2.2.2.2.2.2.2.2.2.2.2⟩)
    go_simp
    all_goals (first | decide | rfl)
  · -- 13
    have wG := hI_.1
    have wB := hI_.2.1
    have wF := hI_.2.2.1
    have h0 := hI_.2.2.2.1
    have h1 := hI_.2.2.2.2.1
    have h2 := hI_.2.2.2.2.2.1
    have h3 := hI_.2.2.2.2.2.2.1
    have h4 := hI_.2.2.2.2.2.2.2.1
    have h5 := hI_.2.2.2.2.2.2.2.2.1
    have h6 := hI_.2.2.2.2.2.2.2.2.2.1
    have h7 := hI_.2.2.2.2.2.2.2.2.2.2.1
    have h8 := hI_.2.2.2.2.2.2.2.2.2.2.2.1
    have h9 := hI_.2.2.2.2.2.2.2.2.2.2.2.2.1
    have h10 := hI_.2.2.2.2.2.2.2.2.2.2.2.2.2.1
    have h11 := hI_.2.2.2.2.2.2.2.2.2.2.2.2.2.2.1
    have h12 := hI_.2.2.2.2.2.2.2.2.2.2.2.2.2.2.2.1
    have h13 := hI_.2.2.2.2.2.2.2.2.2.2.2.2.2.2.2.2.1
    have h14 := hI_.2.2.2.2.2.2.2.2.2.2.2.2.2.2.2.2.2.1
    have h15 := hI_.2.2.2.2.2.2.2.2.2.2.2.2.2.2.2.2.2.2.1
    have h16 := hI_.2.2.2.2.2.2.2.2.2.2.2.2.2.2.2.2.2.2.2
    have e10 := h10 (hd_ 1 10 (by kernel_rfl))
    have e12 := h12 (hd_ 1 12 (by kernel_rfl))
    have wB0 : w_.heap[b1]? = some (.cells (RWs EA EC key y1 (bif dn_ 16 then false else y2)) 60 (0, 0)) := by rw [hd0_] at wB; exact wB
    rw [if_pos (by rfl)]
    refine wp_store_part 2 _ _ rfl b1 (lo * 3 + 1) (.int .i64 moment) [.int .i64 moment] ?_ ?_ rfl (by simp [Value.oneCell']) 60 _ (RWs EA EC key moment (bif dn_ 16 then false else y2)) wB0 (RWs_size _ _ _ _ _ lo 1 HEA.out (by decide)) (by kernel_rfl) (rwas _ _ _ _ _ _ lo HEA.out) ?_
    · exact e12
    · exact e10
    · exact hK.out _ undef _ rfl ⟨((setRow_ne _ _ _ _ HGB.out).trans wG), (setRow_heap _ b1 _ _ _ _ wB0), (wF.set b1 _ HSB.out), h0, h1, h2, h3, h4, h5, h6, h7, h8, h9, h10, h11, h12, (fun _ => trivial), h14, h15, h16⟩
  · -- 14
    have e8 := hI_.2.2.2.2.2.2.2.2.2.2.2.1 (hd_ 1 8 (by kernel_rfl))
    have e9 := hI_.2.2.2.2.2.2.2.2.2.2.2.2.1 (hd_ 1 9 (by kernel_rfl))
    refine val_ (w1 := w_) (v := .pointer (some ⟨b1, lo * 3, none⟩)) (by rfl) rfl ?_ (hK.out _ _ _ rfl ⟨hI_.1, hI_.2.1, hI_.2.2.1, hI_.2.2.2.1, hI_.2.2.2.2.1, hI_.2.2.2.2.2.1, hI_.2.2.2.2.2.2.1, hI_.2.2.2.2.2.2.2.1, hI_.2.2.2.2.2.2.2.2.1, hI_.2.2.2.2.2.2.2.2.2.1, hI_.2.2.2.2.2.2.2.2.2.2.1, hI_.2.2.2.2.2.2.2.2.2.2.2.1, hI_.2.2.2.2.2.2.2.2.2.2.2.2.1, hI_.2.2.2.2.2.2.2.2.2.2.2.2.2.1, hI_.2.2.2.2.2.2.2.2.2.2.2.2.2.2.1, hI_.2.2.2.2.2.2.2.2.2.2.2.2.2.2.2.1, hI_.2.2.2.2.2.2.2.2.2.2.2.2.2.2.2.2.1, (fun _ => rfl), hI_.2.2.2.2.2.2.2.2.2.2.2.2.2.2.2.2.2.2.1, hI_.2.2.2.2.2.2.2.2.2.2.2.2.2.2.2.2.2.2.2⟩)
    go_simp
    all_goals (first | decide | rfl)
  · -- 15
    have e14 := hI_.2.2.2.2.2.2.2.2.2.2.2.2.2.2.2.2.2.1 (hd_ 1 14 (by kernel_rfl))
    refine val_ (w1 := w_) (v := .pointer (some ⟨b1, lo * 3 + 2, none⟩)) (by rfl) rfl ?_ (hK.out _ _ _ rfl ⟨hI_.1, hI_.2.1, hI_.2.2.1, hI_.2.2.2.1, hI_.2.2.2.2.1, hI_.2.2.2.2.2.1, hI_.2.2.2.2.2.2.1, hI_.2.2.2.2.2.2.2.1, hI_.2.2.2.2.2.2.2.2.1, hI_.2.2.2.2.2.2.2.2.2.1, hI_.2.2.2.2.2.2.2.2.2.2.1, hI_.2.2.2.2.2.2.2.2.2.2.2.1, hI_.2.2.2.2.2.2.2.2.2.2.2.2.1, hI_.2.2.2.2.2.2.2.2.2.2.2.2.2.1, hI_.2.2.2.2.2.2.2.2.2.2.2.2.2.2.1, hI_.2.2.2.2.2.2.2.2.2.2.2.2.2.2.2.1, hI_.2.2.2.2.2.2.2.2.2.2.2.2.2.2.2.2.1, hI_.2.2.2.2.2.2.2.2.2.2.2.2.2.2.2.2.2.1, (fun _ => rfl), hI_.2.2.2.2.2.2.2.2.2.2.2.2.2.2.2.2.2.2.2⟩)
    go_simp
    all_goals (first | decide | rfl)
  · -- 16
    have wG := hI_.1
    have wB := hI_.2.1
    have wF := hI_.2.2.1
    have h0 := hI_.2.2.2.1
    have h1 := hI_.2.2.2.2.1
    have h2 := hI_.2.2.2.2.2.1
    have h3 := hI_.2.2.2.2.2.2.1
    have h4 := hI_.2.2.2.2.2.2.2.1
    have h5 := hI_.2.2.2.2.2.2.2.2.1
    have h6 := hI_.2.2.2.2.2.2.2.2.2.1
    have h7 := hI_.2.2.2.2.2.2.2.2.2.2.1
    have h8 := hI_.2.2.2.2.2.2.2.2.2.2.2.1
    have h9 := hI_.2.2.2.2.2.2.2.2.2.2.2.2.1
    have h10 := hI_.2.2.2.2.2.2.2.2.2.2.2.2.2.1
    have h11 := hI_.2.2.2.2.2.2.2.2.2.2.2.2.2.2.1
    have h12 := hI_.2.2.2.2.2.2.2.2.2.2.2.2.2.2.2.1
    have h13 := hI_.2.2.2.2.2.2.2.2.2.2.2.2.2.2.2.2.1
    have h14 := hI_.2.2.2.2.2.2.2.2.2.2.2.2.2.2.2.2.2.1
    have h15 := hI_.2.2.2.2.2.2.2.2.2.2.2.2.2.2.2.2.2.2.1
    have h16 := hI_.2.2.2.2.2.2.2.2.2.2.2.2.2.2.2.2.2.2.2
    have e15 := h15 (hd_ 1 15 (by kernel_rfl))
    have wB0 : w_.heap[b1]? = some (.cells (RWs EA EC key (bif dn_ 13 then moment else y1) y2) 60 (0, 0)) := by rw [hd0_] at wB; exact wB
    rw [if_pos (by rfl)]
    refine wp_store_part 4 _ _ rfl b1 (lo * 3 + 2) (.bool false) [.bool false] ?_ ?_ rfl (by simp [Value.oneCell']) 60 _ (RWs EA EC key (bif dn_ 13 then moment else y1) false) wB0 (RWs_size _ _ _ _ _ lo 2 HEA.out (by decide)) (by kernel_rfl) (rwbs _ _ _ _ _ _ lo HEA.out) ?_
    · exact e15
    · rfl
    · exact hK.out _ undef _ rfl ⟨((setRow_ne _ _ _ _ HGB.out).trans wG), (setRow_heap _ b1 _ _ _ _ wB0), (wF.set b1 _ HSB.out), h0, h1, h2, h3, h4, h5, h6, h7, h8, h9, h10, h11, h12, h13, h14, h15, (fun _ => trivial)⟩
  intro dn_ X w9 hdn_ hI_
  obtain ⟨wG, wB, wF, h0, h1, h2, h3, h4, h5, h6, h7, h8, h9, h10, h11, h12, h13, h14, h15, h16⟩ := hI_
  rw [hdn_ 13 (by decide), hdn_ 16 (by decide)] at wB
  have K9 := Aside0.mk (And.intro wG (And.intro (show w9.heap[b1]? = some (.cells (RWs EA EC key moment false) 60 (0, 0)) from wB) wF))
  clear wG wB wF h0 h1 h2 h3 h4 h5 h6 h7 h8 h9 h10 h11 h12 h13 h14 h15 h16 hdn_
  go_wp2
  go_end0
  exact ⟨rfl, HEND.out _ K9.out.1 K9.out.2.1 K9.out.2.2⟩
theorem accepts_c (w : World) (g b : Nat) (es : List S60) (room span : Int) (key : ByteArray) (moment : Int) (H : Tabs w g b es room span) (hS : Rises es) (hn : es.length ≤ 1000000) (hr1 : 1 ≤ room) (hr2 : room ≤ 1024) :
    Calls Try.prog 42 #[.pointer (some ⟨g, 0, none⟩), .string key, .int .i64 moment] w fun e w' => e = .returned (.tuple #[]) ∧ ∃ b', Tabs w' g b' (accs es key moment room) room span ∧ (b' = b ∨ w.heap.size ≤ b') ∧ Fr (fun k => k = g ∨ k = b) w w' := by
  cases hh : hass es key with
  | true => exact accepts_has w g b es room span key moment H hS hn hr1 hr2 hh
  | false => exact accepts_new w g b es room span key moment H hS hn hr1 hr2 hh
end Go.Proofs.Ytbifanoiailjoaa.MRatePlays

/- A key asks. -/
namespace Go.Proofs.Ytbifanoiailjoaa.MRatePlays
open Go.RowKit Go.Proofs.YtbifanoiailjoaaW.PrintWords Go.Proofs.YtbifanoiailjoaaW.PrintLast Go.Proofs.YtbifanoiailjoaaW.PrintMore Go.Proofs.Ytbifanoiailjoaa.Base
set_option linter.unusedVariables false
set_option linter.unusedSimpArgs false

def tells (es : List S60) (key : ByteArray) : List S60 := es.take (lows es key) ++ { rd_T60 es (lows es key) with f2 := true } :: es.drop (lows es key + 1)
/-- The list behind an asking that is answered. -/
def askLs (es : List S60) (key : ByteArray) (moment room span : Int) : List S60 :=
  if anss es key moment span = 1 then accs es key moment room else if anss es key moment span = 2 then tells es key else es
set_option maxHeartbeats 4000000 in
set_option maxRecDepth 100000 in
theorem asks_acc (w : World) (g b : Nat) (es : List S60) (room span : Int) (key : ByteArray) (moment : Int) (H : Tabs w g b es room span) (hS : Rises es) (hA : Atss es) (hn : es.length ≤ 1000000) (hr1 : 1 ≤ room) (hr2 : room ≤ 1024) (h0 : 0 ≤ moment) (h1 : moment ≤ 4611686018427387904) (ha : anss es key moment span = 1) :
    Calls Try.prog 14 #[.pointer (some ⟨g, 0, none⟩), .string key, .int .i64 moment] w fun e w' => e = .returned (.tuple #[.int .i64 1, .nilIface]) ∧ ∃ b', Tabs w' g b' (accs es key moment room) room span ∧ (b' = b ∨ w.heap.size ≤ b') ∧ Fr (fun k => k = g ∨ k = b) w w' := by
  have HAS := Aside0.mk (askss_ok w g moment h0 h1)
  have HAN := Aside0.mk (fun W (hW : Tabs W g b es room span) => answers_c W g b es room span key moment hW hS hn hA h0 h1)
  rw [ha] at HAN
  have HAC := Aside0.mk (fun W (hW : Tabs W g b es room span) => accepts_c W g b es room span key moment hW hS hn hr1 hr2)
  have HT := Aside0.mk H
  have HF := Aside0.mk (Fr.refl (fun k => k = g ∨ k = b) w)
  have HSZ := Aside0.mk (Nat.le_refl w.heap.size)
  clear H hS hn hA h0 h1 ha hr1 hr2
  go_enter Try.func14, Try.ntmps14
  go_wp2_with (first | (go_at_call 40; refine HAS.out.mono ?_; rintro e_ w1 ⟨rfl, hb_⟩; have HT := Aside0.mk (HT.out.below hb_); have HF := Aside0.mk (HF.out.below hb_); clear hb_) | (go_at_call 41; refine (HAN.out _ HT.out).mono ?_; rintro e_ w2 ⟨rfl, hb_⟩; have HT := Aside0.mk (HT.out.below hb_); have HF := Aside0.mk (HF.out.below hb_); clear hb_) | (go_at_call 42; refine (HAC.out _ HT.out).mono ?_; rintro e_ w3 ⟨rfl, b', ht_, hb_, hf_⟩; have hb2_ := HF.out.size; have HX := Aside0.mk (show ∃ b', Tabs w3 g b' (accs es key moment room) room span ∧ (b' = b ∨ w.heap.size ≤ b') ∧ Fr (fun k => k = g ∨ k = b) w w3 from ⟨b', ht_, hb_.elim .inl (fun q => .inr (by omega)), HF.out.trans hf_ (fun j hj => .inl hj)⟩); clear ht_ hb_ hf_ hb2_) | fail)
  go_ret2
  exact ⟨rfl, HX.out⟩
theorem anss_two (es : List S60) (key : ByteArray) (moment span : Int) (h : anss es key moment span ≠ 1) : hass es key = true := by
  cases q : hass es key with
  | true => rfl
  | false =>
    unfold anss at h
    rw [q] at h
    exact absurd rfl h
set_option maxHeartbeats 4000000 in
set_option maxRecDepth 100000 in
theorem asks_pass (w : World) (g b : Nat) (es : List S60) (room span : Int) (key : ByteArray) (moment : Int) (H : Tabs w g b es room span) (hS : Rises es) (hA : Atss es) (hn : es.length ≤ 1000000) (h0 : 0 ≤ moment) (h1 : moment ≤ 4611686018427387904) (ha : anss es key moment span = 3) :
    Calls Try.prog 14 #[.pointer (some ⟨g, 0, none⟩), .string key, .int .i64 moment] w fun e w' => e = .returned (.tuple #[.int .i64 3, .nilIface]) ∧ Below w.heap.size w w' := by
  have HAS := Aside0.mk (askss_ok w g moment h0 h1)
  have HAN := Aside0.mk (fun W (hW : Tabs W g b es room span) => answers_c W g b es room span key moment hW hS hn hA h0 h1)
  rw [ha] at HAN
  have HT := Aside0.mk H
  clear H hS hn hA h0 h1 ha
  go_enter Try.func14, Try.ntmps14
  go_wp2_with (first | (go_at_call 40; refine HAS.out.mono ?_; rintro e_ w1 ⟨rfl, hb_⟩; have B1 := Aside0.mk hb_; clear hb_) | (go_at_call 41; refine (HAN.out _ (HT.out.below B1.out)).mono ?_; rintro e_ w2 ⟨rfl, hb_⟩; have B2 := Aside0.mk (below_step B1.out hb_); clear hb_) | fail)
  go_ret2
  exact ⟨rfl, B2.out⟩
set_option maxHeartbeats 4000000 in
set_option maxRecDepth 100000 in
theorem asks_tell (w : World) (g b : Nat) (es : List S60) (room span : Int) (key : ByteArray) (moment : Int) (H : Tabs w g b es room span) (hS : Rises es) (hA : Atss es) (hn : es.length ≤ 1000000) (h0 : 0 ≤ moment) (h1 : moment ≤ 4611686018427387904) (ha : anss es key moment span = 2) :
    Calls Try.prog 14 #[.pointer (some ⟨g, 0, none⟩), .string key, .int .i64 moment] w fun e w' => e = .returned (.tuple #[.int .i64 2, .nilIface]) ∧ Tabs w' g b (tells es key) room span ∧ Fr (fun k => k = g ∨ k = b) w w' := by
  have hh := anss_two es key moment span (by rw [ha]; decide)
  have HAS := Aside0.mk (askss_ok w g moment h0 h1)
  have HAN := Aside0.mk (fun W (hW : Tabs W g b es room span) => answers_c W g b es room span key moment hW hS hn hA h0 h1)
  rw [ha] at HAN
  have HP := Aside0.mk (fun W (hW : Tabs W g b es room span) => places_c W g b es room span key hW hS hn)
  rw [hh] at HP
  have hlt := hass_lt es key hh
  have htl : tells es key = es.take (lows es key) ++ { rd_T60 es (lows es key) with f2 := true } :: es.drop (lows es key + 1) := rfl
  have HT := Aside0.mk H
  have HF := Aside0.mk (Fr.refl (fun k => k = g ∨ k = b) w)
  obtain ⟨lo, hlo⟩ : ∃ lo, lows es key = lo := ⟨_, rfl⟩
  rw [hlo] at HP hlt htl
  have HTL := Aside0.mk htl
  have hltn : (lo : Int) < (es.length : Int) := by omega
  have HLT := Aside0.mk hlt
  clear H hS hn hA h0 h1 ha hh htl hlo hlt
  go_enter Try.func14, Try.ntmps14
  go_upto_region 10 with (first | (go_at_call 40; refine HAS.out.mono ?_; rintro e_ w1 ⟨rfl, hb_⟩; have HT := Aside0.mk (HT.out.below hb_); have HF := Aside0.mk (HF.out.below hb_); clear hb_) | (go_at_call 41; refine (HAN.out _ HT.out).mono ?_; rintro e_ w2 ⟨rfl, hb_⟩; have HT := Aside0.mk (HT.out.below hb_); have HF := Aside0.mk (HF.out.below hb_); clear hb_) | (go_at_call 43; refine (HP.out _ HT.out).mono ?_; rintro e_ w3 ⟨rfl, hb_⟩; have HT := Aside0.mk (HT.out.below hb_); have HF := Aside0.mk (HF.out.below hb_); clear hb_) | fail)
  obtain ⟨sl, hg, hs⟩ := HT.out
  rcases hs with ⟨rfl, h0, _⟩ | ⟨hne, c1, rest, rfl, hr, hl, hc⟩
  · have := HLT.out
    rw [h0] at this
    simp at this
  have hcell : w3.cell? ⟨g, 0, none⟩ = some (.slice (some ⟨b, 0, none⟩) es.length c1) := (blk_cell hg 0).trans rfl
  have hlt := HLT.out
  have hp := parts es lo hlt
  have htl := HTL.out
  obtain ⟨A, hA⟩ : ∃ A, es.take lo = A := ⟨_, rfl⟩
  obtain ⟨C, hC⟩ : ∃ C, es.drop (lo + 1) = C := ⟨_, rfl⟩
  obtain ⟨x, hx⟩ : ∃ x, rd_T60 es lo = x := ⟨_, rfl⟩
  have hAl : (encss A).length = lo * 3 := by rw [encss_len, ← hA, List.length_take]; omega
  rw [hA, hC, hx, List.append_assoc, List.singleton_append] at hp
  rw [hA, hC, hx] at htl
  have hlen : (A ++ ({ x with f2 := true } : S60) :: C).length = es.length := by rw [hp]; simp
  rw [hp] at hr hl
  have HR := Aside0.mk (show w3.heap[b]? = some (.cells (RWs (encss A) (encss C ++ rest) x.f0 x.f1 x.f2) 60 (0, 0)) from by rw [show _ = _ from hr, RWs_row])
  have HSZ := Aside0.mk (RWs_size (encss A) (encss C ++ rest) x.f0 x.f1 x.f2 lo 2 hAl (by decide))
  have HPL := Aside0.mk (rwbs (encss A) (encss C ++ rest) x.f0 x.f1 x.f2 true lo hAl)
  have HEND := Aside0.mk (show ∀ W : World, W.heap[g]? = some (.cells #[.slice (some ⟨b, 0, none⟩) es.length c1, .int .i64 room, .int .i64 span] 88 (0, 0)) → W.heap[b]? = some (.cells (RWs (encss A) (encss C ++ rest) x.f0 x.f1 true) 60 (0, 0)) → Tabs W g b (tells es key) room span from fun W k1 k2 => by
    refine ⟨_, k1, .inr ⟨hne, c1, rest, ?_, ?_, ?_, hc⟩⟩
    · rw [htl, hlen]
    · rw [htl]
      show _ = _
      rw [k2, RWs_row]
    · rw [htl, ← hl]
      simp only [List.length_append, encss_len, List.length_cons])
  have HNE := Aside0.mk hne
  have HG := Aside0.mk hg
  clear hr hl hlen htl hAl hp hlt hc hx hA hC hne hg HT
  go_wp2_with (first | ((with_reducible refine gate_store (t := 4) (p := 43) rfl ?_); refine store_part rfl 4 _ _ rfl rfl b (lo * 3 + 2) (.bool true) [.bool true] rfl rfl rfl (by simp [Value.oneCell']) 60 _ _ HR.out HSZ.out (by kernel_rfl) HPL.out ?_) | fail)
  go_ret2
  exact ⟨rfl, HEND.out _ ((setRow_ne _ _ _ _ HNE.out.symm).trans HG.out) (setRow_heap _ b _ _ _ _ HR.out), HF.out.set b _ (.inl (.inr rfl))⟩
theorem anss_cases (es : List S60) (key : ByteArray) (moment span : Int) : anss es key moment span = 1 ∨ anss es key moment span = 2 ∨ anss es key moment span = 3 := by
  unfold anss
  split
  · split
    · exact .inl rfl
    · split
      · exact .inr (.inr rfl)
      · exact .inr (.inl rfl)
  · exact .inl rfl
theorem asks_c (w : World) (g b : Nat) (es : List S60) (room span : Int) (key : ByteArray) (moment : Int) (H : Tabs w g b es room span) (hS : Rises es) (hA : Atss es) (hn : es.length ≤ 1000000) (hr1 : 1 ≤ room) (hr2 : room ≤ 1024) (h0 : 0 ≤ moment) (h1 : moment ≤ 4611686018427387904) :
    Calls Try.prog 14 #[.pointer (some ⟨g, 0, none⟩), .string key, .int .i64 moment] w fun e w' => e = .returned (.tuple #[.int .i64 (anss es key moment span), .nilIface]) ∧ ∃ b', Tabs w' g b' (askLs es key moment room span) room span ∧ (b' = b ∨ w.heap.size ≤ b') ∧ Fr (fun k => k = g ∨ k = b) w w' := by
  rcases anss_cases es key moment span with h | h | h
  · have e : askLs es key moment room span = accs es key moment room := by unfold askLs; rw [if_pos h]
    rw [e, h]
    exact asks_acc w g b es room span key moment H hS hA hn hr1 hr2 h0 h1 h
  · have e : askLs es key moment room span = tells es key := by unfold askLs; rw [h]; rfl
    rw [e, h]
    refine (asks_tell w g b es room span key moment H hS hA hn h0 h1 h).mono ?_
    rintro e_ w' ⟨rfl, ht, hf⟩
    exact ⟨rfl, b, ht, .inl rfl, hf⟩
  · have e : askLs es key moment room span = es := by unfold askLs; rw [h]; rfl
    rw [e, h]
    refine (asks_pass w g b es room span key moment H hS hA hn h0 h1 h).mono ?_
    rintro e_ w' ⟨rfl, hb⟩
    exact ⟨rfl, b, H.below hb, .inl rfl, Fr.ofBelow hb⟩
end Go.Proofs.Ytbifanoiailjoaa.MRatePlays

/- A new table. -/
namespace Go.Proofs.Ytbifanoiailjoaa.MRatePlays
open Go.RowKit Go.Proofs.YtbifanoiailjoaaW.PrintWords Go.Proofs.YtbifanoiailjoaaW.PrintLast Go.Proofs.YtbifanoiailjoaaW.PrintMore Go.Proofs.Ytbifanoiailjoaa.Base
set_option linter.unusedVariables false
set_option linter.unusedSimpArgs false

set_option maxHeartbeats 4000000 in
set_option maxRecDepth 100000 in
theorem news_ok (w : World) (room span : Int) (h : 1 ≤ room ∧ room ≤ 1024 ∧ 0 ≤ span ∧ span ≤ 4611686018427387904) :
    Calls Try.prog 22 #[.int .i64 room, .int .i64 span] w fun e w' => ∃ g, e = .returned (.tuple #[.pointer (some ⟨g, 0, none⟩), .nilIface]) ∧ Tabs w' g g [] room span ∧ w.heap.size ≤ g ∧ Below w.heap.size w w' := by
  have HFI := Aside0.mk (fun W => fits_ok W room span h)
  clear h
  go_enter Try.func22, Try.ntmps22
  go_upto_region 4 with (first | (go_at_call 34; refine (HFI.out _).mono ?_; rintro e_ w1 ⟨rfl, hb_⟩; have B1 := Aside0.mk hb_; clear hb_) | fail)
  go_wp2_with (first | ((with_reducible refine gate_dst (N := 16) rfl ?_); refine box_event ?hg (N := 16) ?hd (cs := #[.slice none 0 0, .int .i64 room, .int .i64 span]) (t := 88) ?hr ?_; (case hd => rfl); (case hg => rfl); (case hr => go_simp; try rfl); intro gr hg_ wr1 hx_ hb_; have Gr := Aside0.mk hg_; have Hr := Aside0.mk hb_; have Br := Aside0.mk hx_; clear hg_ hx_ hb_; skip) | fail)
  go_ret2
  refine ⟨gr, rfl, ⟨_, Br.out, .inl ⟨rfl, rfl, rfl⟩⟩, ?_, below_step B1.out Hr.out⟩
  have := Gr.out
  have := B1.out.size
  omega
end Go.Proofs.Ytbifanoiailjoaa.MRatePlays

