import Derived.Test.YtbifanoiailjoaaRateCmp
import Derived.Test.YtbifanoiailjoaaRowBase
import Derived.Test.YtbifanoiailjoaaRateMid
import Derived.WalkSpells
import Derived.Lib.Overlaps
import Derived.Lib.AppendZerosOnto
import Derived.Test.YtbifanoiailjoaaRegInv
import Derived.Test.YtbifanoiailjoaaRateFits
import Derived.Lib.SliceRun
/- A table's entries (keys of one type): compared with a key; looked for. -/
namespace Go.Proofs.Ytbifanoiailjoaa.MRatePlays
open Go.RowKit Go.Proofs.YtbifanoiailjoaaW.PrintWords Go.Proofs.YtbifanoiailjoaaW.PrintLast Go.Proofs.YtbifanoiailjoaaW.PrintMore Go.Proofs.Ytbifanoiailjoaa.Base
set_option linter.unusedVariables false
set_option linter.unusedSimpArgs false

def ltu (a b : Int) : Bool := decide (a < b)
def cpu (a b : Int) : Int := if ltu a b = true then -1 else if ltu b a = true then 1 else 0
theorem cmpu_k (w : World) (a b : Int) : Calls Try.prog 59 #[.int .u32 a, .int .u32 b] w fun e w' => e = .returned (.int .i64 (cpu a b)) ∧ Drawn0 w w' := by
  refine cmp_Compare_uint32.calls a b (cpu a b) w ?_
  unfold cmp_Compare_uint32.f cmp_isNaN_uint32.f cpu ltu
  simp only [Option.bind_some, bne_self_eq_false, Bool.false_eq_true, if_false, decide_eq_true_eq]
  by_cases h : a < b
  · rw [if_pos h, if_pos h]
  · rw [if_neg h, if_neg h]
    by_cases h2 : b < a
    · rw [if_pos h2, if_pos (show a > b from h2)]
    · rw [if_neg h2, if_neg (show ¬ a > b from h2)]
set_option maxHeartbeats 4000000 in
set_option maxRecDepth 100000 in
theorem cbu_c (w : World) (x : S37) (key : Int) : Calls Try.prog 58 #[.agg #[.int .u32 x.f0, .int .i64 x.f1, .bool x.f2], .int .u32 key] w fun e w' => e = .returned (.int .i64 (cpu x.f0 key)) ∧ Below w.heap.size w w' := by
  go_enter Try.func58, Try.ntmps58
  go_wp2_with (first | (go_at_call 59; refine (cmpu_k _ x.f0 key).mono ?_; rintro e_ w1 ⟨rfl, n_, rfl⟩) | fail)
  go_ret
  exact ⟨rfl, pw_below_drewN (below_alloc (Below.refl _ _) _) n_⟩
def lowu (es : List S37) (key : Int) : Nat := (es.takeWhile (fun x => ltu x.f0 key)).length
def hasu (es : List S37) (key : Int) : Bool := (es.drop (lowu es key)).head?.any (fun x => cpu x.f0 key == 0)
def encu (x : S37) : List Value := [.int .u32 x.f0, .int .i64 x.f1, .bool x.f2]
def encsu (es : List S37) : List Value := es.flatMap encu
theorem encsu_len (es : List S37) : (encsu es).length = 3 * es.length := by
  induction es with
  | nil => rfl
  | cons x r ih =>
    show (encu x ++ encsu r).length = _
    rw [List.length_append, ih]
    simp only [encu, List.length_cons, List.length_nil]
    omega
theorem encsu_at (rest : List Value) : ∀ (es : List S37) (m : Nat), m < es.length → ((encsu es ++ rest).drop (m * 3)).take 3 = encu (rd_T37 es m)
  | [], m, h => by simp at h
  | x :: r, 0, h => by
    show ((encu x ++ encsu r ++ rest).drop (0 * 3)).take 3 = encu x
    rfl
  | x :: r, m + 1, h => by
    have ih := encsu_at rest r m (by simpa using h)
    have e : rd_T37 (x :: r) ((m + 1 : Nat) : Int) = rd_T37 r m := by unfold rd_T37; simp only [Int.toNat_natCast]; rfl
    rw [e, ← ih]
    show ((encu x ++ encsu r ++ rest).drop ((m + 1) * 3)).take 3 = _
    have e2 : (m + 1) * 3 = (m * 3) + 3 := by omega
    rw [e2]
    rfl
/-- A row of entries with its spare cells. -/
def Rowu (W : World) (b : Nat) (es : List S37) (rest : List Value) : Prop := W.heap[b]? = some (.cells (encsu es ++ rest).toArray 37 (0, 0))
def Srtu (es : List S37) : Prop := ∀ a b : Nat, a ≤ b → b < es.length → ∀ key, cpu (rd_T37 es b).f0 key < 0 → cpu (rd_T37 es a).f0 key < 0
set_option maxHeartbeats 4000000 in
set_option maxRecDepth 100000 in
theorem bsfu_c (w : World) (b c : Nat) (es : List S37) (rest : List Value) (key : Int) (hC : Rowu w b es rest) (hc : es.length ≤ c) (hn : es.length ≤ 1000000) :
    Calls Try.prog 57 #[.slice (some ⟨b, 0, none⟩) es.length c, .int .u32 key, .func (.func 58) #[] #[]] w fun e w' => (∃ lo : Nat, lo ≤ es.length ∧ e = .returned (.tuple #[.int .i64 lo, .bool (decide (lo < es.length) && decide (cpu (rd_T37 es lo).f0 key = 0))]) ∧ (Srtu es → (∀ t : Nat, t < lo → cpu (rd_T37 es t).f0 key < 0) ∧ (∀ t : Nat, lo ≤ t → t < es.length → 0 ≤ cpu (rd_T37 es t).f0 key))) ∧ Below w.heap.size w w' := by
  have HC := Aside0.mk hC
  have HCC := Aside0.mk hc
  clear hC hc
  go_enter Try.func57, Try.ntmps57
  go_wp2
  go_loopg [9, 10] es.length (fun kx s9 s10 wr => ∃ lo hi : Nat, s9 = .int .i64 lo ∧ s10 = .int .i64 hi ∧ lo ≤ hi ∧ hi ≤ es.length ∧ hi - lo ≤ kx ∧ Aside0 (Below w.heap.size w wr) ∧
    Aside0 (Srtu es → (∀ t : Nat, t < lo → cpu (rd_T37 es t).f0 key < 0) ∧ (∀ t : Nat, hi ≤ t → t < es.length → 0 ≤ cpu (rd_T37 es t).f0 key)))
  case atStart => exact ⟨0, es.length, rfl, rfl, Nat.zero_le _, Nat.le_refl _, by omega, ⟨Below.refl _ _⟩, ⟨fun _ => ⟨fun t ht => absurd ht (Nat.not_lt_zero _), fun t h1 h2 => by omega⟩⟩⟩
  case round =>
    obtain ⟨lo, hi, rfl, rfl, hlh, hin, hg, B1, I⟩ := hrel
    by_cases hlt : lo < hi
    · obtain ⟨m, hm⟩ : ∃ m : Nat, (lo + hi) / 2 = m := ⟨_, rfl⟩
      have hmi : ((lo : Int) + (hi : Int)) / 2 = (m : Int) := by omega
      have hml : lo ≤ m ∧ m < hi := by omega
      have HR := Aside0.mk (show wr.heap[b]? = some (.cells (encsu es ++ rest).toArray 37 (0, 0)) from blk_below HC.out B1.out)
      have HM := Aside0.mk hm
      clear hm
      have hlt1 : (m : Int) < (es.length : Int) := by omega
      have hpart : (((encsu es ++ rest).toArray).toList.drop (m * 3)).take (#[.int .u32 (rd_T37 es m).f0, .int .i64 (rd_T37 es m).f1, .bool (rd_T37 es m).f2] : Array Value).size = (#[.int .u32 (rd_T37 es m).f0, .int .i64 (rd_T37 es m).f1, .bool (rd_T37 es m).f2] : Array Value).toList := encsu_at rest es m (by omega)
      have HPT := Aside0.mk hpart
      have HML := Aside0.mk hml
      clear hpart hml
      go_upto_region 5 with (fail)
      clear hmi
      have HCB := Aside0.mk (fun W => cbu_c W (rd_T37 es m) key)
      obtain ⟨x, hx⟩ : ∃ x, rd_T37 es m = x := ⟨_, rfl⟩
      have HX := Aside0.mk hx
      rw [hx] at HCB HPT
      clear hx
      by_cases hc : cpu x.f0 key < 0
      · have hcd : decide (cpu x.f0 key < 0) = true := decide_eq_true hc
        have hwm : wrap64 ((m : Int) + 1) = ((m + 1 : Nat) : Int) := by rw [wrap64_id (by unfold I64; omega)]; rfl
        have HH := Aside0.mk hc
        go_wp2_with (first | ((with_reducible refine gate_dst (N := 28) rfl ?_); refine load_part rfl 37 _ rfl b (m * 3) ?hx #[.int .u32 x.f0, .int .i64 x.f1, .bool x.f2] 37 (encsu es ++ rest).toArray HR.out HPT.out _ Try.underlying37 rfl (by kernel_rfl) ?_; (case hx => go_simp)) | (go_at_call 58; refine (HCB.out _).mono ?_; rintro e_ w1 ⟨rfl, hb_⟩; have B1 := Aside0.mk (below_step B1.out hb_); clear hb_) | fail)
        clear hc
        go_roundg (hi - (m + 1))
        case measure => have q := HML.out; omega
        case rel => exact ⟨m + 1, hi, by first | rfl | go_num, rfl, by have q := HML.out; omega, hin, Nat.le_refl _, B1, ⟨fun hs => ⟨fun t ht => hs t m (by omega) (by have q := HML.out; omega) key (by rw [HX.out]; exact HH.out), (I.out hs).2⟩⟩⟩
      · have hcd : decide (cpu x.f0 key < 0) = false := decide_eq_false hc
        have HH := Aside0.mk (Int.not_lt.1 hc)
        clear hc
        go_wp2_with (first | ((with_reducible refine gate_dst (N := 28) rfl ?_); refine load_part rfl 37 _ rfl b (m * 3) ?hx #[.int .u32 x.f0, .int .i64 x.f1, .bool x.f2] 37 (encsu es ++ rest).toArray HR.out HPT.out _ Try.underlying37 rfl (by kernel_rfl) ?_; (case hx => go_simp)) | (go_at_call 58; refine (HCB.out _).mono ?_; rintro e_ w1 ⟨rfl, hb_⟩; have B1 := Aside0.mk (below_step B1.out hb_); clear hb_) | fail)
        go_roundg (m - lo)
        case measure => have q := HML.out; omega
        case rel => exact ⟨lo, m, rfl, by first | rfl | go_num, by have q := HML.out; omega, by have q := HML.out; omega, Nat.le_refl _, B1, ⟨fun hs => ⟨(I.out hs).1, fun t h1 h2 => Int.not_lt.1 fun q => by have q2 := hs m t h1 h2 key q; rw [HX.out] at q2; have q3 := HH.out; omega⟩⟩⟩
    · obtain rfl : hi = lo := by omega
      have HI := Aside0.mk I.out
      by_cases hlen : hi < es.length
      · have HR := Aside0.mk (show wr.heap[b]? = some (.cells (encsu es ++ rest).toArray 37 (0, 0)) from blk_below HC.out B1.out)
        have hlt1 : (hi : Int) < (es.length : Int) := by omega
        have hld : decide (hi < es.length) = true := decide_eq_true hlen
        have HPT := Aside0.mk (show (((encsu es ++ rest).toArray).toList.drop (hi * 3)).take (#[.int .u32 (rd_T37 es hi).f0, .int .i64 (rd_T37 es hi).f1, .bool (rd_T37 es hi).f2] : Array Value).size = (#[.int .u32 (rd_T37 es hi).f0, .int .i64 (rd_T37 es hi).f1, .bool (rd_T37 es hi).f2] : Array Value).toList from encsu_at rest es hi hlen)
        have HCB := Aside0.mk (fun W => cbu_c W (rd_T37 es hi) key)
        obtain ⟨x, hx⟩ : ∃ x, rd_T37 es hi = x := ⟨_, rfl⟩
        have HX := Aside0.mk hx
        rw [hx] at HCB HPT
        clear hx
        go_wp2_with (first | ((with_reducible refine gate_dst (N := 44) rfl ?_); (try (refine gate_guard (by rfl) ?_; dsimp only)); refine load_part rfl 37 _ rfl b (hi * 3) ?hx #[.int .u32 x.f0, .int .i64 x.f1, .bool x.f2] 37 (encsu es ++ rest).toArray HR.out HPT.out _ Try.underlying37 rfl (by kernel_rfl) ?_; (case hx => go_simp)) | (go_at_call 58; refine (HCB.out _).mono ?_; rintro e_ w1 ⟨rfl, hb_⟩; have B1 := Aside0.mk (below_step B1.out hb_); clear hb_) | fail)
        go_ret2
        exact ⟨⟨hi, hin, by rw [HX.out, hld, Bool.true_and]; exact congrArg (fun b_ => Ending.returned (Value.tuple #[.int .i64 hi, .bool b_])) (by first | rfl | (rw [Bool.eq_iff_iff]; simp)), HI.out⟩, B1.out⟩
      · have hld : decide (hi < es.length) = false := decide_eq_false hlen
        go_wp2
        go_ret2
        exact ⟨⟨hi, hin, by rw [hld]; simp, HI.out⟩, B1.out⟩
end Go.Proofs.Ytbifanoiailjoaa.MRatePlays

/- The order of a table's entries. -/
namespace Go.Proofs.Ytbifanoiailjoaa.MRatePlays
open Go.RowKit Go.Proofs.YtbifanoiailjoaaW.PrintWords Go.Proofs.YtbifanoiailjoaaW.PrintLast Go.Proofs.YtbifanoiailjoaaW.PrintMore Go.Proofs.Ytbifanoiailjoaa.Base
set_option linter.unusedVariables false
set_option linter.unusedSimpArgs false

theorem ltu_irr (a : Int) : ltu a a = false := by simp [ltu]
theorem ltu_trans (a b c : Int) (h1 : ltu a b = true) (h2 : ltu b c = true) : ltu a c = true := by simp only [ltu, decide_eq_true_eq] at *; omega
theorem ltu_tri (a b : Int) (h1 : ltu a b = false) (h2 : ltu b a = false) : a = b := by simp only [ltu, decide_eq_false_iff_not] at *; omega
theorem cpu_neg (a b : Int) : cpu a b < 0 ↔ ltu a b = true := by
  unfold cpu
  cases ltu a b <;> cases ltu b a <;> simp
theorem ltu_asym (a b : Int) (h : ltu a b = true) : ltu b a = false := by
  cases q : ltu b a with
  | false => rfl
  | true => have := ltu_trans a b a h q; rw [ltu_irr] at this; cases this
theorem cpu_zero (a b : Int) : cpu a b = 0 ↔ a = b := by
  unfold cpu
  constructor
  · intro h
    cases h1 : ltu a b with
    | true => rw [h1] at h; simp at h
    | false =>
      cases h2 : ltu b a with
      | true => rw [h1, h2] at h; simp at h
      | false => exact ltu_tri a b h1 h2
  · rintro rfl
    rw [ltu_irr]
    rfl
/-- The entries rise by their keys. -/
def Riseu (es : List S37) : Prop := es.Pairwise (fun x y => ltu x.f0 y.f0 = true)
theorem rdu_get (es : List S37) (m : Nat) (h : m < es.length) : rd_T37 es m = es[m] := by unfold rd_T37; simp [List.getElem?_eq_getElem h]
theorem srtu (es : List S37) (h : Riseu es) : Srtu es := by
  intro a b hab hb key hk
  rw [rdu_get es b hb, cpu_neg] at hk
  rw [rdu_get es a (by omega), cpu_neg]
  rcases Nat.lt_or_ge a b with q | q
  · exact ltu_trans _ _ _ (List.pairwise_iff_getElem.1 h a b (by omega) hb q) hk
  · have e : a = b := by omega
    subst e
    exact hk
theorem lowu_is (key : Int) : ∀ (es : List S37) (lo : Nat), lo ≤ es.length → (∀ t : Nat, t < lo → cpu (rd_T37 es t).f0 key < 0) → (∀ t : Nat, lo ≤ t → t < es.length → 0 ≤ cpu (rd_T37 es t).f0 key) → lowu es key = lo
  | [], lo, h, _, _ => by simp at h; subst h; rfl
  | x :: r, 0, _, _, h => by
    have := h 0 (Nat.le_refl _) (by simp)
    have e : rd_T37 (x :: r) ((0 : Nat) : Int) = x := rfl
    rw [e] at this
    have q : ¬ ltu x.f0 key = true := fun q => by rw [← cpu_neg] at q; omega
    simp [lowu, List.takeWhile_cons, q]
  | x :: r, lo + 1, hl, h1, h2 => by
    have ex : ∀ t : Nat, rd_T37 (x :: r) ((t + 1 : Nat) : Int) = rd_T37 r t := fun t => by unfold rd_T37; simp only [Int.toNat_natCast]; rfl
    have q := h1 0 (by omega)
    have e : rd_T37 (x :: r) ((0 : Nat) : Int) = x := rfl
    rw [e, cpu_neg] at q
    have ih := lowu_is key r lo (by simpa using hl) (fun t ht => by rw [← ex]; exact h1 (t + 1) (by omega)) (fun t ht hl => by rw [← ex]; exact h2 (t + 1) (by omega) (by simpa using hl))
    have : lowu (x :: r) key = lowu r key + 1 := by simp [lowu, List.takeWhile_cons, q]
    omega
theorem lowu_le (es : List S37) (key : Int) : lowu es key ≤ es.length := (List.takeWhile_prefix _).length_le
theorem hasu_eq (es : List S37) (key : Int) (lo : Nat) (h : lowu es key = lo) : hasu es key = (decide (lo < es.length) && decide (cpu (rd_T37 es lo).f0 key = 0)) := by
  unfold hasu
  rw [h]
  by_cases q : lo < es.length
  · rw [rdu_get es lo q, List.drop_eq_getElem_cons q, Bool.eq_iff_iff]
    simp [q]
  · have e : es.drop lo = [] := List.drop_eq_nil_of_le (by omega)
    rw [e]
    simp [q]
/-- A slice of entries: nothing, or a row of its own. -/
def Slu (W : World) (g b : Nat) (sl : Value) (es : List S37) : Prop :=
  (sl = .slice none 0 0 ∧ es = [] ∧ b = g) ∨ (b ≠ g ∧ ∃ (c : Nat) (rest : List Value), sl = .slice (some ⟨b, 0, none⟩) es.length c ∧ Rowu W b es rest ∧ (encsu es ++ rest).length = c * 3 ∧ c ≤ 9223372036854775807)
/-- A table at g, its row at b (g: it has none). -/
def Tabu (W : World) (g b : Nat) (es : List S37) (room span : Int) : Prop :=
  ∃ sl : Value, W.heap[g]? = some (.cells #[sl, .int .i64 room, .int .i64 span] 77 (0, 0)) ∧ Slu W g b sl es
theorem Slu.below {W W' : World} {g b : Nat} {sl : Value} {es : List S37} (h : Slu W g b sl es) (hb : Below W.heap.size W W') : Slu W' g b sl es := by
  rcases h with h | ⟨hn, c, rest, e, hr, hl, hc⟩
  · exact .inl h
  · exact .inr ⟨hn, c, rest, e, blk_below hr hb, hl, hc⟩
theorem Tabu.below {W W' : World} {g b : Nat} {es : List S37} {room span : Int} (h : Tabu W g b es room span) (hb : Below W.heap.size W W') : Tabu W' g b es room span := by
  obtain ⟨sl, hg, hs⟩ := h
  exact ⟨sl, blk_below hg hb, hs.below hb⟩
set_option maxHeartbeats 4000000 in
set_option maxRecDepth 100000 in
theorem bsfnu_c (w : World) (key : Int) :
    Calls Try.prog 57 #[.slice none 0 0, .int .u32 key, .func (.func 58) #[] #[]] w fun e w' => e = .returned (.tuple #[.int .i64 0, .bool false]) ∧ Below w.heap.size w w' := by
  go_enter Try.func57, Try.ntmps57
  go_wp2
  go_loopg [9, 10] 0 (fun kx s9 s10 wr => s9 = .int .i64 0 ∧ s10 = .int .i64 0 ∧ Aside0 (Below w.heap.size w wr))
  case atStart => exact ⟨rfl, rfl, ⟨Below.refl _ _⟩⟩
  case round =>
    obtain ⟨rfl, rfl, B1⟩ := hrel
    go_wp2
    go_ret2
    exact ⟨rfl, B1.out⟩
set_option maxHeartbeats 4000000 in
set_option maxRecDepth 100000 in
theorem placeu_c (w : World) (g b : Nat) (es : List S37) (room span : Int) (key : Int) (H : Tabu w g b es room span) (hS : Riseu es) (hn : es.length ≤ 1000000) :
    Calls Try.prog 38 #[.pointer (some ⟨g, 0, none⟩), .int .u32 key] w fun e w' => e = .returned (.tuple #[.int .i64 (lowu es key), .bool (hasu es key)]) ∧ Below w.heap.size w w' := by
  obtain ⟨sl, hg, hs⟩ := H
  have hcell : w.cell? ⟨g, 0, none⟩ = some sl := (blk_cell hg 0).trans rfl
  rcases hs with ⟨rfl, rfl, rfl⟩ | ⟨hne, c, rest, rfl, hr, hl, hc⟩
  · go_enter Try.func38, Try.ntmps38
    go_wp2_with (first | (go_at_call 57; refine (bsfnu_c _ key).mono ?_; rintro e_ w1 ⟨rfl, hb_⟩; have B1 := Aside0.mk hb_; clear hb_) | fail)
    go_ret2
    exact ⟨rfl, B1.out⟩
  · have hcl : es.length ≤ c := by
      rw [List.length_append, encsu_len] at hl
      omega
    go_enter Try.func38, Try.ntmps38
    go_wp2_with (first | (go_at_call 57; refine (bsfu_c _ b c es rest key hr hcl hn).mono ?_; rintro e_ w1 ⟨⟨lo, hlo, rfl, hB⟩, hb_⟩; have B1 := Aside0.mk hb_; clear hb_) | fail)
    go_ret2
    obtain ⟨hB1, hB2⟩ := hB (srtu es hS)
    have hlow := lowu_is key es lo hlo hB1 hB2
    exact ⟨by rw [hasu_eq es key lo hlow, hlow]; exact rfl, B1.out⟩
end Go.Proofs.Ytbifanoiailjoaa.MRatePlays

/- What a key is answered. -/
namespace Go.Proofs.Ytbifanoiailjoaa.MRatePlays
open Go.RowKit Go.Proofs.YtbifanoiailjoaaW.PrintWords Go.Proofs.YtbifanoiailjoaaW.PrintLast Go.Proofs.YtbifanoiailjoaaW.PrintMore Go.Proofs.Ytbifanoiailjoaa.Base
set_option linter.unusedVariables false
set_option linter.unusedSimpArgs false

set_option maxHeartbeats 4000000 in
set_option maxRecDepth 100000 in
theorem asksu_ok (w : World) (g : Nat) (moment : Int) (h0 : 0 ≤ moment) (h1 : moment ≤ 4611686018427387904) :
    Calls Try.prog 35 #[.pointer (some ⟨g, 0, none⟩), .int .i64 moment] w fun e w' => e = .returned Value.nilIface ∧ Below w.heap.size w w' := by
  have c1 : decide (moment < 0) = false := decide_eq_false (by omega)
  have c2 : decide (4611686018427387904 < moment) = false := decide_eq_false (by omega)
  have H0 := Aside0.mk h0
  have H1 := Aside0.mk h1
  clear h0 h1
  go_enter Try.func35, Try.ntmps35
  go_wp2
  go_ret
  exact ⟨rfl, Below.refl _ _⟩
set_option maxHeartbeats 4000000 in
set_option maxRecDepth 100000 in
theorem asksu_bad (w : World) (g : Nat) (moment : Int) (h : ¬ (0 ≤ moment ∧ moment ≤ 4611686018427387904)) :
    Calls Try.prog 35 #[.pointer (some ⟨g, 0, none⟩), .int .i64 moment] w fun e w' => e = .returned (.iface 49 (.int .i64 1)) ∧ Below w.heap.size w w' := by
  by_cases c : moment < 0
  · have c1 : decide (moment < 0) = true := decide_eq_true c
    have H := Aside0.mk c
    clear c h
    go_enter Try.func35, Try.ntmps35
    go_wp2
    go_ret
    exact ⟨rfl, Below.refl _ _⟩
  · have c1 : decide (moment < 0) = false := decide_eq_false c
    have c2 : decide (4611686018427387904 < moment) = true := decide_eq_true (by omega)
    have H := Aside0.mk c
    clear c h
    go_enter Try.func35, Try.ntmps35
    go_wp2
    go_ret
    exact ⟨rfl, Below.refl _ _⟩
def ansu (es : List S37) (key : Int) (moment span : Int) : Int :=
  if hasu es key = true then (if span ≤ moment - (rd_T37 es (lowu es key)).f1 then 1 else if (rd_T37 es (lowu es key)).f2 = true then 3 else 2) else 1
def Atsu (es : List S37) : Prop := ∀ x ∈ es, 0 ≤ x.f1 ∧ x.f1 ≤ 4611686018427387904
theorem hasu_lt (es : List S37) (key : Int) (h : hasu es key = true) : lowu es key < es.length := by
  rw [hasu_eq es key _ rfl] at h
  simp only [Bool.and_eq_true, decide_eq_true_eq] at h
  exact h.1
theorem rowu_cell {W : World} {b : Nat} {es : List S37} {rest : List Value} (h : Rowu W b es rest) (m j : Nat) (hm : m < es.length) (v : Value) (hv : (encu (rd_T37 es m))[j]? = some v) (hj : j < 3) : W.cell? ⟨b, m * 3 + j, none⟩ = some v := by
  rw [blk_cell h (m * 3 + j), ← hv, ← encsu_at rest es m hm, List.getElem?_take, if_pos hj, List.getElem?_drop]
  simp
set_option maxHeartbeats 4000000 in
set_option maxRecDepth 100000 in
theorem answeru_c (w : World) (g b : Nat) (es : List S37) (room span : Int) (key : Int) (moment : Int) (H : Tabu w g b es room span) (hS : Riseu es) (hn : es.length ≤ 1000000) (hA : Atsu es) (h0 : 0 ≤ moment) (h1 : moment ≤ 4611686018427387904) :
    Calls Try.prog 36 #[.pointer (some ⟨g, 0, none⟩), .int .u32 key, .int .i64 moment] w fun e w' => e = .returned (.int .i64 (ansu es key moment span)) ∧ Below w.heap.size w w' := by
  have HP := Aside0.mk (placeu_c w g b es room span key H hS hn)
  cases hh : hasu es key with
  | false =>
    rw [hh] at HP
    have ha : ansu es key moment span = 1 := by unfold ansu; rw [hh]; rfl
    rw [ha]
    clear h0 h1 H hS hA hn ha
    go_enter Try.func36, Try.ntmps36
    go_wp2_with (first | (go_at_call 38; refine (HP.out).mono ?_; rintro e_ w1 ⟨rfl, hb_⟩; have B1 := Aside0.mk hb_; clear hb_) | fail)
    go_quiet (fail)
    go_wp2
    go_ret
    exact ⟨rfl, pw_below_drewN B1.out _⟩
  | true =>
    have hlt := hasu_lt es key hh
    rw [hh] at HP
    obtain ⟨sl, hg, hs⟩ := H
    rcases hs with ⟨rfl, rfl, rfl⟩ | ⟨hne, c, rest, rfl, hr, hl, hc⟩
    · simp at hlt
    have hat := hA (rd_T37 es (lowu es key)) (by rw [rdu_get es _ hlt]; exact List.getElem_mem _)
    have ha : ansu es key moment span = if span ≤ moment - (rd_T37 es (lowu es key)).f1 then 1 else if (rd_T37 es (lowu es key)).f2 = true then 3 else 2 := by unfold ansu; rw [hh]; rfl
    rw [ha]
    obtain ⟨lo, hlo⟩ : ∃ lo, lowu es key = lo := ⟨_, rfl⟩
    rw [hlo] at hat hlt HP ⊢
    have hk1 := rowu_cell hr lo 1 hlt _ rfl (by omega)
    have hk2 := rowu_cell hr lo 2 hlt _ rfl (by omega)
    obtain ⟨x, hx⟩ : ∃ x, rd_T37 es lo = x := ⟨_, rfl⟩
    rw [hx] at hat hk1 hk2 ⊢
    obtain ⟨y0, y1, y2⟩ := x
    have HC := Aside0.mk (And.intro hg (And.intro hr (And.intro hk1 hk2)))
    have hwm : wrap64 (moment - y1) = moment - y1 := wrap64_id (by unfold I64; dsimp only at hat; omega)
    have hlt1 : (lo : Int) < (es.length : Int) := by omega
    clear hg hr hk1 hk2 hx hat hlo ha hS hA hl hc hlt h0 h1
    have hcut : ∀ w1 : World, Below w.heap.size w w1 → w1.cell? ⟨g, 0, none⟩ = some (.slice (some ⟨b, 0, none⟩) es.length c) ∧ w1.cell? ⟨g, 2, none⟩ = some (.int .i64 span) ∧ w1.cell? ⟨b, lo * 3 + 1, none⟩ = some (.int .i64 y1) ∧ w1.cell? ⟨b, lo * 3 + 2, none⟩ = some (.bool y2) := fun w1 hb =>
      ⟨(blk_cell (blk_below HC.out.1 hb) 0).trans rfl, (blk_cell (blk_below HC.out.1 hb) 2).trans rfl, cell_later hb HC.out.2.2.1, cell_later hb HC.out.2.2.2⟩
    have HCUT := Aside0.mk hcut
    clear hcut
    by_cases c1 : span ≤ moment - y1
    · have d1 : decide (moment - y1 ≥ span) = true := decide_eq_true c1
      rw [if_pos c1]
      clear c1
      go_enter Try.func36, Try.ntmps36
      go_wp2_with (first | (go_at_call 38; refine (HP.out).mono ?_; rintro e_ w1 ⟨rfl, hb_⟩; have B1 := Aside0.mk hb_; obtain ⟨k1, k2, k3, k4⟩ := HCUT.out w1 hb_; clear hb_) | fail)
      go_quiet (fail)
      go_wp2
      go_ret
      exact ⟨rfl, pw_below_drewN B1.out _⟩
    · have d1 : decide (moment - y1 ≥ span) = false := decide_eq_false c1
      rw [if_neg c1]
      clear c1
      cases y2 with
      | false =>
        go_enter Try.func36, Try.ntmps36
        go_wp2_with (first | (go_at_call 38; refine (HP.out).mono ?_; rintro e_ w1 ⟨rfl, hb_⟩; have B1 := Aside0.mk hb_; obtain ⟨k1, k2, k3, k4⟩ := HCUT.out w1 hb_; clear hb_) | fail)
        go_quiet (fail)
        go_wp2
        go_ret
        exact ⟨rfl, pw_below_drewN B1.out _⟩
      | true =>
        go_enter Try.func36, Try.ntmps36
        go_wp2_with (first | (go_at_call 38; refine (HP.out).mono ?_; rintro e_ w1 ⟨rfl, hb_⟩; have B1 := Aside0.mk hb_; obtain ⟨k1, k2, k3, k4⟩ := HCUT.out w1 hb_; clear hb_) | fail)
        go_quiet (fail)
        go_wp2
        go_ret
        exact ⟨rfl, pw_below_drewN B1.out _⟩
end Go.Proofs.Ytbifanoiailjoaa.MRatePlays

/- Two entries by their age. -/
namespace Go.Proofs.Ytbifanoiailjoaa.MRatePlays
open Go.RowKit Go.Proofs.YtbifanoiailjoaaW.PrintWords Go.Proofs.YtbifanoiailjoaaW.PrintLast Go.Proofs.YtbifanoiailjoaaW.PrintMore Go.Proofs.Ytbifanoiailjoaa.Base
set_option linter.unusedVariables false
set_option linter.unusedSimpArgs false


theorem cmpuf (a b : Int) : cmp_Compare_uint32.f a b = some (cpu a b) := by
  unfold cmp_Compare_uint32.f cmp_isNaN_uint32.f cpu ltu
  simp only [Option.bind_some, bne_self_eq_false, Bool.false_eq_true, if_false, decide_eq_true_eq]
  by_cases h : a < b
  · rw [if_pos h, if_pos h]
  · rw [if_neg h, if_neg h]
    by_cases h2 : b < a
    · rw [if_pos h2, if_pos (show a > b from h2)]
    · rw [if_neg h2, if_neg (show ¬ a > b from h2)]
def oldu (x y : S37) : Int := if cp64 x.f1 y.f1 = 0 then cpu x.f0 y.f0 else cp64 x.f1 y.f1
theorem olderu_c (w : World) (x y : S37) : Calls Try.prog 66 #[.agg #[.int .u32 x.f0, .int .i64 x.f1, .bool x.f2], .agg #[.int .u32 y.f0, .int .i64 y.f1, .bool y.f2]] w fun e w' => e = .returned (.int .i64 (oldu x y)) ∧ Below w.heap.size w w' := by
  refine rate_older_uint32.calls 4 x.f0 x.f1 x.f2 y.f0 y.f1 y.f2 (oldu x y) w ?_
  unfold rate_older_uint32.f
  rw [cp64_f, cmpuf]
  simp only [Option.bind_some, or2]
  rfl
/-- The one that goes first. -/
def minu : S37 → List S37 → S37
  | m, [] => m
  | m, x :: r => minu (if oldu x m < 0 then x else m) r
theorem minu_snoc (m : S37) (r : List S37) (x : S37) : minu m (r ++ [x]) = if oldu x (minu m r) < 0 then x else minu m r := by
  induction r generalizing m with
  | nil => rfl
  | cons y r ih => exact ih _
theorem encu_one (x : S37) : (encu x).all (·.oneCell') = true := by simp [encu, Value.oneCell']
theorem arru_one (x : S37) : (#[.int .u32 x.f0, .int .i64 x.f1, .bool x.f2] : Array Value).all (·.oneCell') = true := by simp [Value.oneCell']
set_option maxHeartbeats 4000000 in
set_option maxRecDepth 100000 in
theorem minfu_c (w : World) (b c : Nat) (e0 : S37) (er : List S37) (rest : List Value) (hC : Rowu w b (e0 :: er) rest) (hc : (e0 :: er).length ≤ c) (hn : (e0 :: er).length ≤ 1000000) :
    Calls Try.prog 65 #[.slice (some ⟨b, 0, none⟩) (e0 :: er).length c, .func (.func 66) #[] #[]] w fun e w' => e = .returned (.agg #[.int .u32 (minu e0 er).f0, .int .i64 (minu e0 er).f1, .bool (minu e0 er).f2]) ∧ Below w.heap.size w w' := by
  obtain ⟨es, hes⟩ : ∃ es, e0 :: er = es := ⟨_, rfl⟩
  rw [hes] at hC hc hn ⊢
  have HC := Aside0.mk hC
  have HCC := Aside0.mk hc
  have HB := Aside0.mk (Below.refl w.heap.size w)
  have hlt0 : decide ((es.length : Int) < 1) = false := by rw [← hes]; exact decide_eq_false (by simp; omega)
  have HE := Aside0.mk hes
  have hp0 : (0 : Int) < (es.length : Int) := by rw [← hes]; simp
  clear hC hc hes
  go_enter Try.func65, Try.ntmps65
  go_upto_region 3 with (first | ((with_reducible refine gate_dst (N := 4) rfl ?_); refine box_event ?hg (N := 4) ?hd (cs := #[.int .u32 0, .int .i64 0, .bool false]) (t := 37) ?hr ?_; (case hd => rfl); (case hg => rfl); (case hr => go_simp; try rfl); intro gr hg_ wr1 hx_ hb_; have Gr := Aside0.mk hg_; have Hr := Aside0.mk hb_; have Br := Aside0.mk hx_; clear hg_ hx_ hb_; skip) | fail)
  have PR := Aside0.mk (PH.start HB.out Hr.out Gr.out Br.out)
  have HR := Aside0.mk (show wr1.heap[b]? = some (.cells (encsu es ++ rest).toArray 37 (0, 0)) from blk_below HC.out PR.out.bel)
  clear Gr Hr Br HB
  have hz0 := rowu_cell HR.out 0 0 (by omega) _ rfl (by omega)
  have hz1 := rowu_cell HR.out 0 1 (by omega) _ rfl (by omega)
  have hz2 := rowu_cell HR.out 0 2 (by omega) _ rfl (by omega)
  have he0 : rd_T37 es ((0 : Nat) : Int) = e0 := by rw [← HE.out]; rfl
  rw [he0] at hz0 hz1 hz2
  go_upto_region 4 with (first | ((with_reducible refine gate_dst (N := 5) rfl ?_); refine box_event ?hg (N := 5) ?hd (cs := #[.int .u32 0, .int .i64 0, .bool false]) (t := 37) ?hr ?_; (case hd => rfl); (case hg => rfl); (case hr => go_simp; try rfl); intro gm hg_ wm hx_ hb_; have Gm := Aside0.mk hg_; have Hm := Aside0.mk hb_; have Bm := Aside0.mk hx_; clear hg_ hx_ hb_; skip) | ((with_reducible refine gate_store (t := 37) (p := 5) rfl ?_); refine wpList_store_row rfl 37 _ _ rfl gm #[.int .u32 e0.f0, .int .i64 e0.f1, .bool e0.f2] rfl rfl 37 _ Bm.out (by kernel_rfl) (by rfl) (arru_one e0) ?_) | fail)
  have hgm : gr ≠ gm := fun e => by have q := blk_lt PR.out.row; rw [e, Gm.out] at q; exact Nat.lt_irrefl _ q
  have PM := Aside0.mk ((PH.start PR.out.bel Hm.out Gm.out Bm.out).set #[.int .u32 e0.f0, .int .i64 e0.f1, .bool e0.f2])
  have PR2 := Aside0.mk ((PR.out.below Hm.out).setx (cs' := #[.int .u32 e0.f0, .int .i64 e0.f1, .bool e0.f2]) PM.out.new hgm)
  clear PR HR hz0 hz1 hz2 Gm Hm Bm
  generalize wm.setRow gm #[.int .u32 e0.f0, .int .i64 e0.f1, .bool e0.f2] = w2 at PM PR2 ⊢
  have hel : es.length = er.length + 1 := by rw [← HE.out]; rfl
  have HEL := Aside0.mk hel
  clear hel
  go_wp2
  go_loopg [6] es.length (fun kx s6 wr => ∃ i : Nat, s6 = .int .i64 i ∧ 1 ≤ i ∧ i ≤ es.length ∧ es.length - i ≤ kx ∧ Aside0 (PH 37 w gr #[.int .u32 0, .int .i64 0, .bool false] wr) ∧ Aside0 (PH 37 w gm #[.int .u32 (minu e0 (er.take (i - 1))).f0, .int .i64 (minu e0 (er.take (i - 1))).f1, .bool (minu e0 (er.take (i - 1))).f2] wr))
  case atStart => exact ⟨1, rfl, Nat.le_refl _, by omega, by omega, PR2, PM⟩
  case round =>
    obtain ⟨i, rfl, hi1, hi2, hg, R1, M1⟩ := hrel
    by_cases hlt : i < es.length
    · have hltn : (i : Int) < (es.length : Int) := by omega
      have HR := Aside0.mk (show wr.heap[b]? = some (.cells (encsu es ++ rest).toArray 37 (0, 0)) from blk_below HC.out R1.out.bel)
      obtain ⟨mm, hmm⟩ : ∃ mm, minu e0 (er.take (i - 1)) = mm := ⟨_, rfl⟩
      have HMM := Aside0.mk hmm
      rw [hmm] at M1
      obtain ⟨x, hx⟩ : ∃ x, rd_T37 es (i : Int) = x := ⟨_, rfl⟩
      have HX := Aside0.mk hx
      have hx0 := rowu_cell HR.out i 0 hlt _ rfl (by omega)
      have hx1 := rowu_cell HR.out i 1 hlt _ rfl (by omega)
      have hx2 := rowu_cell HR.out i 2 hlt _ rfl (by omega)
      rw [hx] at hx0 hx1 hx2
      have HXC := Aside0.mk (And.intro hx0 (And.intro hx1 hx2))
      have HO := Aside0.mk (fun W => olderu_c W x mm)
      have HI := Aside0.mk (And.intro hi1 hi2)
      have HLT := Aside0.mk hlt
      clear hmm hx hx0 hx1 hx2 hi1 hi2 hlt
      go_upto_region 7 with (fail)
      refine region_below (T := ?T) (n := 0) [some 20, some 21, some 22, some 23, some 24, some 25, some 26, some 27] ?hT (fun i_ v_ _ => v_ = [.func (.func 66) #[] #[], .slice (some ⟨b, 0, none⟩) es.length c, .int .i64 i, .pointer (some ⟨b, i * 3, none⟩), .agg #[.int .u32 x.f0, .int .i64 x.f1, .bool x.f2], .agg #[.int .u32 mm.f0, .int .i64 mm.f1, .bool mm.f2], .int .i64 (oldu x mm), .bool (decide (oldu x mm < 0))].getD i_ undef) (by kernel_rfl) (by kernel_rfl) (fun i_ v_ w_ w1_ _ h_ _ => h_) [0, 1, 2, 3, 4, 5, 6, 7] rfl (.cons (some 20) rfl rfl (fun X wx hG hX K hK => ?_) (.cons (some 21) rfl rfl (fun X wx hG hX K hK => ?_) (.cons (some 22) rfl rfl (fun X wx hG hX K hK => ?_) (.cons (some 23) rfl rfl (fun X wx hG hX K hK => ?_) (.cons (some 24) rfl rfl (fun X wx hG hX K hK => ?_) (.cons (some 25) rfl rfl (fun X wx hG hX K hK => ?_) (.cons (some 26) rfl rfl (fun X wx hG hX K hK => ?_) (.cons (some 27) rfl rfl (fun X wx hG hX K hK => ?_) .nil)))))))) (by kernel_rfl) #[true, true, true, true, true, true, true, true] (by kernel_rfl) ?_
      case hT =>
        intro X
        simp only [fill, Act.put, List.setIfInBounds_toArray, List.set_cons_zero, List.set_cons_succ, Nat.zero_add, Nat.reduceAdd]
        rfl
      · refine val_ (w1 := wx) (v := .func (.func 66) #[] #[]) (by rfl) rfl ?_ (hK.out _ _ _ rfl (Below.refl _ _) rfl)
        go_simp
      · refine val_ (w1 := wx) (v := .slice (some ⟨b, 0, none⟩) es.length c) (by rfl) rfl ?_ (hK.out _ _ _ rfl (Below.refl _ _) rfl)
        go_simp
      · refine val_ (w1 := wx) (v := .int .i64 i) (by rfl) rfl ?_ (hK.out _ _ _ rfl (Below.refl _ _) rfl)
        go_simp
      · have e1 : X 1 = .slice (some ⟨b, 0, none⟩) es.length c := hX 1 1 (by kernel_rfl)
        have e2 : X 2 = .int .i64 i := hX 2 2 (by kernel_rfl)
        refine val_ (w1 := wx) (v := .pointer (some ⟨b, i * 3, none⟩)) (by rfl) rfl ?_ (hK.out _ _ _ rfl (Below.refl _ _) rfl)
        go_simp
      · have e3 : X 3 = .pointer (some ⟨b, i * 3, none⟩) := hX 3 3 (by kernel_rfl)
        have s0 : wx.cell? ⟨b, i * 3, none⟩ = some (.int .u32 x.f0) := cell_later hG (show wr.drew.cell? ⟨b, i * 3, none⟩ = _ from HXC.out.1)
        have s1 : wx.cell? ⟨b, i * 3 + 1, none⟩ = some (.int .i64 x.f1) := cell_later hG (show wr.drew.cell? ⟨b, i * 3 + 1, none⟩ = _ from HXC.out.2.1)
        have s2 : wx.cell? ⟨b, i * 3 + 2, none⟩ = some (.bool x.f2) := cell_later hG (show wr.drew.cell? ⟨b, i * 3 + 2, none⟩ = _ from HXC.out.2.2)
        refine val_ (w1 := wx) (v := .agg #[.int .u32 x.f0, .int .i64 x.f1, .bool x.f2]) (by rfl) rfl ?_ (hK.out _ _ _ rfl (Below.refl _ _) rfl)
        go_simp
      · have s0 : wx.cell? ⟨gm, 0, none⟩ = some (.int .u32 mm.f0) := (blk_cell (blk_below (blk_drew M1.out.row) hG) 0).trans rfl
        have s1 : wx.cell? ⟨gm, 1, none⟩ = some (.int .i64 mm.f1) := (blk_cell (blk_below (blk_drew M1.out.row) hG) 1).trans rfl
        have s2 : wx.cell? ⟨gm, 2, none⟩ = some (.bool mm.f2) := (blk_cell (blk_below (blk_drew M1.out.row) hG) 2).trans rfl
        refine val_ (w1 := wx) (v := .agg #[.int .u32 mm.f0, .int .i64 mm.f1, .bool mm.f2]) (by rfl) rfl ?_ (hK.out _ _ _ rfl (Below.refl _ _) rfl)
        go_simp
      · have e0 : X 0 = .func (.func 66) #[] #[] := hX 6 0 (by kernel_rfl)
        have e4 : X 4 = .agg #[.int .u32 x.f0, .int .i64 x.f1, .bool x.f2] := hX 6 4 (by kernel_rfl)
        have e5 : X 5 = .agg #[.int .u32 mm.f0, .int .i64 mm.f1, .bool mm.f2] := hX 6 5 (by kernel_rfl)
        refine goesV_ Try.func66 (by kernel_rfl) rfl #[X 4, X 5] (by rfl) rfl _ rfl e0 (by simp only [List.map_toArray, List.map_cons, List.map_nil]; rfl) ?_
        refine calls_args (args2 e4 e5) ?_
        refine (HO.out wx).mono ?_
        rintro e w' ⟨rfl, hb⟩
        exact ⟨_, rfl, hK.out _ _ _ rfl hb rfl⟩
      · have e6 : X 6 = .int .i64 (oldu x mm) := hX 7 6 (by kernel_rfl)
        refine val_ (w1 := wx) (v := .bool (decide (oldu x mm < 0))) (by rfl) rfl ?_ (hK.out _ _ _ rfl (Below.refl _ _) rfl)
        go_simp
      intro X wx hG hX
      refine tail_done (by kernel_rfl) ?_
      have e7 : X 7 = .bool (decide (oldu x mm < 0)) := hX 7 (by decide)
      rw [e7]
      have R2 := Aside0.mk (R1.out.below hG)
      have M2 := Aside0.mk (M1.out.below hG)
      have s0 : wx.cell? ⟨b, i * 3, none⟩ = some (.int .u32 x.f0) := cell_later hG (show wr.drew.cell? ⟨b, i * 3, none⟩ = _ from HXC.out.1)
      have s1 : wx.cell? ⟨b, i * 3 + 1, none⟩ = some (.int .i64 x.f1) := cell_later hG (show wr.drew.cell? ⟨b, i * 3 + 1, none⟩ = _ from HXC.out.2.1)
      have s2 : wx.cell? ⟨b, i * 3 + 2, none⟩ = some (.bool x.f2) := cell_later hG (show wr.drew.cell? ⟨b, i * 3 + 2, none⟩ = _ from HXC.out.2.2)
      have hmin : minu e0 (er.take ((i + 1 : Nat) - 1)) = if oldu x mm < 0 then x else mm := by
        have q : er.take (i + 1 - 1) = er.take (i - 1) ++ [x] := by
          have hi := HI.out.1
          have hl := HLT.out
          have hh := HEL.out
          have ex : er[i - 1]'(by omega) = x := by
            rw [← HX.out, rdu_get es i hl]
            have : es[i] = (e0 :: er)[i]'(by simp; omega) := by simp only [HE.out]
            rw [this, List.getElem_cons]
            rw [dif_neg (by omega)]
          have this := List.take_append_getElem (l := er) (i := i - 1) (by omega)
          rw [ex] at this
          rw [this]
          exact congrArg (fun k => List.take k er) (by omega)
        rw [q, minu_snoc, HMM.out]
      have hwi : wrap64 ((i : Int) + 1) = ((i + 1 : Nat) : Int) := by rw [wrap64_id (by unfold I64; omega)]; rfl
      clear hG hX e7
      generalize wx = wy at R2 M2 s0 s1 s2 ⊢
      by_cases ho : oldu x mm < 0
      · have hod : decide (oldu x mm < 0) = true := decide_eq_true ho
        rw [if_pos ho] at hmin
        clear ho
        have HMIN := Aside0.mk hmin
        clear hmin
        rw [hod]
        go_upto_region 6 with (first | ((with_reducible refine gate_store (t := 37) (p := 5) rfl ?_); refine wpList_store_row rfl 37 _ _ rfl gm #[.int .u32 x.f0, .int .i64 x.f1, .bool x.f2] rfl rfl 37 _ M2.out.row (by kernel_rfl) (by rfl) (arru_one x) ?_) | fail)
        have M3 := Aside0.mk (M2.out.set #[.int .u32 x.f0, .int .i64 x.f1, .bool x.f2])
        have R3 := Aside0.mk (R2.out.setx (cs' := #[.int .u32 x.f0, .int .i64 x.f1, .bool x.f2]) M2.out.new hgm)
        clear s0 s1 s2
        generalize wy.setRow gm #[.int .u32 x.f0, .int .i64 x.f1, .bool x.f2] = wz at M3 R3 ⊢
        go_wp2
        go_roundg (es.length - (i + 1))
        case measure => have q := HLT.out; omega
        case rel => exact ⟨i + 1, by first | rfl | go_num, by omega, by have q := HLT.out; omega, Nat.le_refl _, R3, by rw [HMIN.out]; exact M3⟩
      · have hod : decide (oldu x mm < 0) = false := decide_eq_false ho
        rw [if_neg ho] at hmin
        clear ho
        have HMIN := Aside0.mk hmin
        clear hmin
        rw [hod]
        go_wp2
        go_roundg (es.length - (i + 1))
        case measure => have q := HLT.out; omega
        case rel => exact ⟨i + 1, by first | rfl | go_num, by omega, by have q := HLT.out; omega, Nat.le_refl _, R2, by rw [HMIN.out]; exact M2⟩
    · obtain rfl : i = es.length := by omega
      have hme : minu e0 (er.take (es.length - 1)) = minu e0 er := by rw [List.take_of_length_le (by have q := HEL.out; omega)]
      rw [hme] at M1
      clear hme
      obtain ⟨mm, hmm⟩ : ∃ mm, minu e0 er = mm := ⟨_, rfl⟩
      rw [hmm] at M1
      have HMM := Aside0.mk hmm
      clear hmm
      have s0 : wr.cell? ⟨gm, 0, none⟩ = some (.int .u32 mm.f0) := (blk_cell M1.out.row 0).trans rfl
      have s1 : wr.cell? ⟨gm, 1, none⟩ = some (.int .i64 mm.f1) := (blk_cell M1.out.row 1).trans rfl
      have s2 : wr.cell? ⟨gm, 2, none⟩ = some (.bool mm.f2) := (blk_cell M1.out.row 2).trans rfl
      go_wp2_with (first | ((with_reducible refine gate_store (t := 37) (p := 4) rfl ?_); refine wpList_store_row rfl 37 _ _ rfl gr #[.int .u32 mm.f0, .int .i64 mm.f1, .bool mm.f2] rfl rfl 37 _ R1.out.row (by kernel_rfl) (by rfl) (arru_one mm) ?_) | fail)
      refine bodyPost_ret (results_cell_row rfl _ _ gr 37 #[.int .u32 mm.f0, .int .i64 mm.f1, .bool mm.f2] (0, 0) _ rfl (R1.out.set _).row Try.underlying37 rfl (by kernel_rfl)) rfl ?_
      exact ⟨by rw [HMM.out], (R1.out.set _).bel⟩
end Go.Proofs.Ytbifanoiailjoaa.MRatePlays

/- Entries taken out; the oldest one. -/
namespace Go.Proofs.Ytbifanoiailjoaa.MRatePlays
open Go.RowKit Go.Proofs.YtbifanoiailjoaaW.PrintWords Go.Proofs.YtbifanoiailjoaaW.PrintLast Go.Proofs.YtbifanoiailjoaaW.PrintMore Go.Proofs.Ytbifanoiailjoaa.Base
set_option linter.unusedVariables false
set_option linter.unusedSimpArgs false

theorem infou : ∃ i, Try.prog.info? 37 = some i ∧ i.zero = some (.agg #[.int .u32 0, .int .i64 0, .bool false]) ∧ i.size = 3 ∧ i.bytes = 24 := by
  have h : (Try.prog.info? 37).map (fun i => (i.zero, i.size, i.bytes)) = some (some (.agg #[.int .u32 0, .int .i64 0, .bool false]), 3, 24) := by kernel_rfl
  obtain ⟨i, hi, h⟩ := Option.map_eq_some_iff.1 h
  simp only [Prod.mk.injEq] at h
  exact ⟨i, hi, h.1, h.2.1, h.2.2⟩
theorem zerou (w : World) : (zeroValue 37).run Try.prog w = .ok (.agg #[.int .u32 0, .int .i64 0, .bool false]) w := by
  obtain ⟨i, hi, hz, _⟩ := infou
  simp [zeroValue, typeInfo, hi, hz]
theorem encsu_app (a b : List S37) : encsu (a ++ b) = encsu a ++ encsu b := by simp [encsu]
theorem encsu_one (es : List S37) : ∀ v ∈ encsu es, v.oneCell' = true := by
  intro v hv
  simp only [encsu, List.mem_flatMap] at hv
  obtain ⟨x, _, hv⟩ := hv
  exact (List.all_eq_true.1 (encu_one x)) v hv
/-- The cells of some entries, where they lie. -/
theorem rowu_src {W : World} {b : Nat} {es : List S37} {rest : List Value} (h : Rowu W b es rest) (A B C : List S37) (he : es = A ++ B ++ C) (o : Nat) (ho : o = A.length * 3) (j : Nat) (v : Value) (hj : (encsu B)[j]? = some v) : W.cell? ((⟨b, o, none⟩ : Addr).add j) = some v := by
  subst he ho
  rw [Addr.add_lit, blk_cell h, ← hj]
  simp only [encsu_app, List.append_assoc, List.getElem?_toArray]
  have hl := encsu_len A
  rw [List.getElem?_append_right (by omega), List.getElem?_append_left (by have := (List.getElem?_eq_some_iff.1 hj).1; omega)]
  congr 1
  omega
theorem zcu : (Builtin.zeroCells (Value.agg #[.int .u32 0, .int .i64 0, .bool false]).cells 1).toList = [.int .u32 0, .int .i64 0, .bool false] := by
  simp [Builtin.zeroCells, Value.cells]
  try rfl
theorem zcu_one : ∀ v ∈ ([.int .u32 0, .int .i64 0, .bool false] : List Value), v.oneCell' = true := by simp [Value.oneCell']
set_option maxHeartbeats 4000000 in
set_option maxRecDepth 100000 in
theorem deleteu_c (w : World) (b c : Nat) (A C : List S37) (x : S37) (rest : List Value) (hC : Rowu w b (A ++ [x] ++ C) rest) (hc : A.length + C.length + 1 ≤ c) (hcm : c ≤ 9223372036854775807) (hn : A.length + C.length ≤ 1000000) :
    Calls Try.prog 47 #[.slice (some ⟨b, 0, none⟩) (A.length + C.length + 1) c, .int .i64 A.length, .int .i64 ((A.length + 1 : Nat) : Int)] w fun e w' => e = .returned (.slice (some ⟨b, 0, none⟩) (A.length + C.length) c) ∧ Rowu w' b (A ++ C) (.int .u32 0 :: .int .i64 0 :: .bool false :: rest) ∧ Fr (fun k => k = b) w w' := by
  obtain ⟨i, hi, hz, hs, hby⟩ := infou
  obtain ⟨C0, D, hCD, hD⟩ : ∃ (C0 : List Value) (D : List Value), encsu ([x] ++ C) = C0 ++ D ∧ D.length = 3 := ⟨(encsu ([x] ++ C)).take (3 * C.length), (encsu ([x] ++ C)).drop (3 * C.length), (List.take_append_drop _ _).symm, by rw [List.length_drop, encsu_len]; simp; omega⟩
  have hC0 : C0.length = 3 * C.length := by
    have := congrArg List.length hCD
    rw [encsu_len, List.length_append] at this
    simp at this
    omega
  have happ : ∀ W : World, Rowu W b (A ++ [x] ++ C) rest → ∀ (a : Addr) (sc : Nat), (C.length = 0 ∨ a = ⟨b, (A.length + 1) * 3, none⟩) → ∀ ty, (Builtin.append_ #[43, 43] ty #[.slice (some ⟨b, 0, none⟩) A.length c, .slice (some a) C.length sc]).run Try.prog W =
      .ok (.slice (some ⟨b, 0, none⟩) (A.length + C.length) c) (W.setRow b (encsu A ++ encsu C ++ (D ++ rest)).toArray) := fun W hW a sc ha ty => by
    refine run_append_mid W 43 ty 37 i Try.underlying43 hi b A.length c a C.length sc (encsu C) (by rw [encsu_len, hs]; omega) (fun j u hj => ?_) (encsu_one C) (by omega) 37 (encsu A) C0 (D ++ rest) ?_ (by rw [encsu_len, hC0]) (by rw [encsu_len, hs]; omega)
    · rcases ha with h0 | rfl
      · rw [List.length_eq_zero_iff.1 h0] at hj
        simp [encsu] at hj
      · exact rowu_src hW (A ++ [x]) C [] (by simp) _ (by simp) j u hj
    · rw [hW, List.append_assoc A, encsu_app, hCD]
      simp
  have hclr : ∀ W : World, W.heap[b]? = some (.cells (encsu A ++ encsu C ++ (D ++ rest)).toArray 37 (0, 0)) → ∀ ty c', (Builtin.clear_ #[43] ty #[.slice (some ⟨b, (A.length + C.length) * 3, none⟩) 1 c']).run Try.prog W =
      .ok (.tuple #[]) (W.setRow b (encsu (A ++ C) ++ (.int .u32 0 :: .int .i64 0 :: .bool false :: rest)).toArray) := fun W hW ty c' => by
    have := run_clear_mid W 43 37 ty (.agg #[.int .u32 0, .int .i64 0, .bool false]) Try.underlying43 zerou b ((A.length + C.length) * 3) 1 c' (by decide) [.int .u32 0, .int .i64 0, .bool false] zcu zcu_one 37 (encsu (A ++ C)) D rest (by rw [hW, encsu_app]; simp) (by rw [hD]; rfl) (by rw [encsu_len]; simp; omega)
    rw [this]
    simp
  obtain ⟨p, hp⟩ : ∃ p, A.length = p := ⟨_, rfl⟩
  obtain ⟨q, hq⟩ : ∃ q, C.length = q := ⟨_, rfl⟩
  have HC := Aside0.mk (show w.drew.heap[b]? = some (.cells (encsu (A ++ [x] ++ C) ++ rest).toArray 37 (0, 0)) from hC)
  rw [hp, hq] at hc hn happ hclr ⊢
  have HAPP := Aside0.mk happ
  have HCLR := Aside0.mk hclr
  have hb1 : (p : Int) ≤ (p : Int) + 1 := by omega
  have hb2 : (p : Int) + 1 ≤ (p : Int) + (q : Int) + 1 := by omega
  have hb3 : (p : Int) + (q : Int) + 1 ≤ (c : Int) := by omega
  clear hC happ hclr hCD hC0 hD hi hz hs hby hp hq
  go_enter Try.func47, Try.ntmps47
  go_upto_region 5 with (fail)
  have hpc : p ≤ c := by omega
  have hpn : p + 1 ≤ p + q + 1 := by omega
  have hp0 : (0 : Int) ≤ (p : Int) + 1 := by omega
  obtain ⟨ad, had, hadq⟩ : ∃ ad : Addr, (if c = p + 1 then some (⟨b, 0, none⟩ : Addr) else some ⟨b, (p + 1) * 3, none⟩) = some ad ∧ (q = 0 ∨ ad = ⟨b, (p + 1) * 3, none⟩) := by
    by_cases h : c = p + 1
    · exact ⟨_, by rw [if_pos h], .inl (by omega)⟩
    · exact ⟨_, by rw [if_neg h], .inr rfl⟩
  go_region_law (refine step_append_run rfl _ _ 43 43 rfl (.slice (some ⟨b, 0, none⟩) p c) (.slice (some ad) q (c - (p + 1))) (by simp [Act.eval, Act.put]) (by rw [← had]; simp [Act.eval, Act.put]) (HAPP.out _ HC.out ad _ hadq _) ?_)
  have hR1 := setRow_heap w.drew b _ (encsu A ++ (encsu C ++ (D ++ rest))).toArray _ _ HC.out
  have hF1 : Fr (fun k => k = b) w (w.drew.setRow b (encsu A ++ (encsu C ++ (D ++ rest))).toArray) := (Fr.refl _ w).drew.set b _ (.inl rfl)
  generalize w.drew.setRow b (encsu A ++ (encsu C ++ (D ++ rest))).toArray = W1 at hR1 hF1 ⊢
  have hcl := HCLR.out W1 (by rw [hR1, List.append_assoc])
  have hF2 := Aside0.mk (hF1.set b (encsu (A ++ C) ++ (.int .u32 0 :: .int .i64 0 :: .bool false :: rest)).toArray (.inl rfl))
  have hR2 := Aside0.mk (setRow_heap W1 b _ (encsu (A ++ C) ++ (.int .u32 0 :: .int .i64 0 :: .bool false :: rest)).toArray _ _ hR1)
  clear hR1 hF1 HCLR HAPP had hadq
  have hpq : p + q ≤ p + q + 1 := by omega
  have hpq1 : p + q + 1 - (p + q) = 1 := by omega
  go_wp2
  go_ret
  exact ⟨rfl, hR2.out, hF2.out⟩
end Go.Proofs.Ytbifanoiailjoaa.MRatePlays

/- A key is forgotten. -/
namespace Go.Proofs.Ytbifanoiailjoaa.MRatePlays
open Go.RowKit Go.Proofs.YtbifanoiailjoaaW.PrintWords Go.Proofs.YtbifanoiailjoaaW.PrintLast Go.Proofs.YtbifanoiailjoaaW.PrintMore Go.Proofs.Ytbifanoiailjoaa.Base
set_option linter.unusedVariables false
set_option linter.unusedSimpArgs false

def fgtu (es : List S37) (key : Int) : List S37 := if hasu es key = true then es.take (lowu es key) ++ es.drop (lowu es key + 1) else es
theorem partu (es : List S37) (lo : Nat) (h : lo < es.length) : es = es.take lo ++ [rd_T37 es lo] ++ es.drop (lo + 1) := by
  rw [rdu_get es lo h, List.append_assoc, List.singleton_append, ← List.drop_eq_getElem_cons h, List.take_append_drop]
set_option maxHeartbeats 4000000 in
set_option maxRecDepth 100000 in
theorem forgetu_c (w : World) (g b : Nat) (es : List S37) (room span : Int) (key : Int) (H : Tabu w g b es room span) (hS : Riseu es) (hn : es.length ≤ 1000000) :
    Calls Try.prog 28 #[.pointer (some ⟨g, 0, none⟩), .int .u32 key] w fun e w' => e = .returned (.bool (hasu es key)) ∧ Tabu w' g b (fgtu es key) room span ∧ Fr (fun k => k = g ∨ k = b) w w' := by
  have HP := Aside0.mk (placeu_c w g b es room span key H hS hn)
  cases hh : hasu es key with
  | false =>
    rw [hh] at HP
    have ha : fgtu es key = es := by unfold fgtu; rw [hh]; rfl
    rw [ha]
    have HT := Aside0.mk H
    clear H hS hn ha
    go_enter Try.func28, Try.ntmps28
    go_wp2_with (first | (go_at_call 38; refine (HP.out).mono ?_; rintro e_ w1 ⟨rfl, hb_⟩; have B1 := Aside0.mk hb_; clear hb_) | fail)
    go_ret
    exact ⟨rfl, HT.out.below B1.out, Fr.ofBelow B1.out⟩
  | true =>
    have hlt := hasu_lt es key hh
    rw [hh] at HP
    have ha : fgtu es key = es.take (lowu es key) ++ es.drop (lowu es key + 1) := by unfold fgtu; rw [hh]; rfl
    rw [ha]
    obtain ⟨sl, hg, hs⟩ := H
    rcases hs with ⟨rfl, rfl, rfl⟩ | ⟨hne, c, rest, rfl, hr, hl, hc⟩
    · simp at hlt
    obtain ⟨lo, hlo⟩ : ∃ lo, lowu es key = lo := ⟨_, rfl⟩
    rw [hlo] at hlt HP ⊢
    have hp := partu es lo hlt
    obtain ⟨A, hA⟩ : ∃ A, es.take lo = A := ⟨_, rfl⟩
    obtain ⟨C, hC⟩ : ∃ C, es.drop (lo + 1) = C := ⟨_, rfl⟩
    obtain ⟨x, hx⟩ : ∃ x, rd_T37 es lo = x := ⟨_, rfl⟩
    have hAl : A.length = lo := by rw [← hA, List.length_take]; omega
    have hCl : es.length = A.length + C.length + 1 := by rw [hp, hA, hC]; simp; omega
    rw [hA, hC, hx] at hp
    rw [hA, hC]
    rw [hp] at hr hl
    rw [hCl] at hn hg
    have hlc : A.length + C.length + 1 ≤ c := by
      rw [List.length_append, encsu_len] at hl
      simp at hl
      omega
    have HD := Aside0.mk (fun W hW => deleteu_c W b c A C x rest hW hlc hc (by omega))
    rw [hAl] at HD hg
    obtain ⟨q, hq⟩ : ∃ q, C.length = q := ⟨_, rfl⟩
    rw [hq] at HD hg
    have HG := Aside0.mk hg
    have HR := Aside0.mk hr
    have HN := Aside0.mk hne
    have HAQ := Aside0.mk (And.intro hAl hq)
    have HL := Aside0.mk (And.intro hl hc)
    have hw1 : wrap64 ((lo : Int) + 1) = ((lo + 1 : Nat) : Int) := by rw [wrap64_id (by unfold I64; omega)]; rfl
    clear hg hr hne hAl hq hp hA hC hx hl hc hS hlt ha hCl hlc hn
    go_enter Try.func28, Try.ntmps28
    go_upto_region 5 with (first | (go_at_call 38; refine (HP.out).mono ?_; rintro e_ w1 ⟨rfl, hb_⟩; have B1 := Aside0.mk hb_; clear hb_) | fail)
    have hcell : w1.cell? ⟨g, 0, none⟩ = some (.slice (some ⟨b, 0, none⟩) (lo + q + 1) c) := (blk_cell (blk_below HG.out B1.out) 0).trans rfl
    have HF1 := Aside0.mk (Fr.ofBelow (S := fun k => k = g ∨ k = b) B1.out)
    have HG1 := Aside0.mk (blk_below HG.out B1.out)
    have HR1 := Aside0.mk (blk_below HR.out B1.out)
    clear B1 HP HG HR
    go_wp2_with (first | (go_at_call 47; refine (HD.out _ HR1.out).mono ?_; rintro e_ w2 ⟨rfl, hr_, hf_⟩; have HR2 := Aside0.mk hr_; have HG2 := Aside0.mk ((hf_.block g (blk_lt HG1.out) (Ne.symm HN.out)).trans HG1.out); have HF2 := Aside0.mk (HF1.out.trans hf_ (fun j hj => .inl (.inr hj))); clear hr_ hf_) | ((with_reducible refine gate_store (t := 43) (p := 26) rfl ?_); refine store_part rfl 43 _ _ rfl rfl g 0 (.slice (some ⟨b, 0, none⟩) (lo + q) c) [.slice (some ⟨b, 0, none⟩) (lo + q) c] rfl rfl rfl (by simp [Value.oneCell']) 77 _ #[.slice (some ⟨b, 0, none⟩) (lo + q) c, .int .i64 room, .int .i64 span] HG2.out (by simp) (by kernel_rfl) (by rfl) ?_; have HG3 := Aside0.mk (setRow_heap _ g _ #[.slice (some ⟨b, 0, none⟩) (lo + q) c, .int .i64 room, .int .i64 span] _ _ HG2.out); have HR3 := Aside0.mk ((setRow_ne _ g b #[.slice (some ⟨b, 0, none⟩) (lo + q) c, .int .i64 room, .int .i64 span] HN.out).trans HR2.out); have HF3 := Aside0.mk (HF2.out.set g #[.slice (some ⟨b, 0, none⟩) (lo + q) c, .int .i64 room, .int .i64 span] (.inl (.inl rfl)))) | fail)
    go_ret
    obtain ⟨h1, h2⟩ := HAQ.out
    obtain ⟨h3, h4⟩ := HL.out
    have h5 : (A ++ C).length = lo + q := by rw [List.length_append, h1, h2]
    refine ⟨rfl, ⟨_, HG3.out, .inr ⟨HN.out, c, _, by rw [h5], HR3.out, ?_, h4⟩⟩, HF3.out⟩
    rw [← h3]
    simp only [encsu_app, List.length_append, encsu_len, List.length_cons, List.length_nil]
    omega
end Go.Proofs.Ytbifanoiailjoaa.MRatePlays

/- The oldest one; entries put out. -/
namespace Go.Proofs.Ytbifanoiailjoaa.MRatePlays
open Go.RowKit Go.Proofs.YtbifanoiailjoaaW.PrintWords Go.Proofs.YtbifanoiailjoaaW.PrintLast Go.Proofs.YtbifanoiailjoaaW.PrintMore Go.Proofs.Ytbifanoiailjoaa.Base
set_option linter.unusedVariables false
set_option linter.unusedSimpArgs false

set_option maxHeartbeats 4000000 in
set_option maxRecDepth 100000 in
theorem lenu_c (w : World) (g b : Nat) (es : List S37) (room span : Int) (H : Tabu w g b es room span) :
    Calls Try.prog 13 #[.pointer (some ⟨g, 0, none⟩)] w fun e w' => e = .returned (.int .i64 es.length) ∧ Below w.heap.size w w' := by
  obtain ⟨sl, hg, hs⟩ := H
  obtain ⟨A, c, rfl⟩ : ∃ A c, sl = .slice A es.length c := by
    rcases hs with ⟨rfl, rfl, rfl⟩ | ⟨hne, c, rest, rfl, hr, hl, hc⟩
    · exact ⟨none, 0, rfl⟩
    · exact ⟨_, _, rfl⟩
  have hcell : w.cell? ⟨g, 0, none⟩ = some (.slice A es.length c) := (blk_cell hg 0).trans rfl
  go_enter Try.func13, Try.ntmps13
  go_wp2
  go_ret
  exact ⟨rfl, Below.refl _ _⟩
theorem minu_mem (m : S37) (r : List S37) : minu m r ∈ m :: r := by
  induction r generalizing m with
  | nil => exact List.mem_cons_self
  | cons x r ih =>
    have := ih (if oldu x m < 0 then x else m)
    show minu (if oldu x m < 0 then x else m) r ∈ _
    rcases List.mem_cons.1 this with h | h
    · rw [h]
      split <;> simp
    · exact List.mem_cons_of_mem _ (List.mem_cons_of_mem _ h)
set_option maxHeartbeats 4000000 in
set_option maxRecDepth 100000 in
theorem oldestu_none (w : World) (g b : Nat) (room span : Int) (H : Tabu w g b [] room span) :
    Calls Try.prog 55 #[.pointer (some ⟨g, 0, none⟩)] w fun e w' => e = .returned (.tuple #[.agg #[.int .u32 0, .int .i64 0, .bool false], .bool false]) ∧ Below w.heap.size w w' := by
  have HL := Aside0.mk (fun W hW => lenu_c W g b [] room span hW)
  have HT := Aside0.mk H
  have HB := Aside0.mk (Below.refl w.heap.size w)
  clear H
  go_enter Try.func55, Try.ntmps55
  go_upto_region 1 with (first | ((with_reducible refine gate_dst (N := 2) rfl ?_); refine box_event ?hg (N := 2) ?hd (cs := #[.int .u32 0, .int .i64 0, .bool false]) (t := 37) ?hr ?_; (case hd => rfl); (case hg => rfl); (case hr => go_simp; try rfl); intro gr hg_ wr1 hx_ hb_; have Gr := Aside0.mk hg_; have Hr := Aside0.mk hb_; have Br := Aside0.mk hx_; clear hg_ hx_ hb_; skip) | fail)
  have PR := Aside0.mk (PH.start HB.out Hr.out Gr.out Br.out)
  clear Gr Hr Br HB
  go_wp2_with (first | (go_at_call 13; refine (HL.out _ (HT.out.below PR.out.bel)).mono ?_; rintro e_ w1 ⟨rfl, hb_⟩; have PR := Aside0.mk (PR.out.below hb_); clear hb_) | ((with_reducible refine gate_store (t := 37) (p := 2) rfl ?_); refine wpList_store_row rfl 37 _ _ rfl gr #[.int .u32 0, .int .i64 0, .bool false] rfl rfl 37 _ PR.out.row (by kernel_rfl) (by rfl) (by simp [Value.oneCell']) ?_) | fail)
  refine bodyPost_ret (results_cell_row_tmp rfl _ _ gr 37 #[.int .u32 0, .int .i64 0, .bool false] (0, 0) _ _ rfl (PR.out.set _).row Try.underlying37 rfl (by kernel_rfl) rfl) rfl ?_
  exact ⟨rfl, (PR.out.set _).bel⟩
set_option maxHeartbeats 4000000 in
set_option maxRecDepth 100000 in
theorem oldestu_c (w : World) (g b : Nat) (e0 : S37) (er : List S37) (room span : Int) (H : Tabu w g b (e0 :: er) room span) (hn : (e0 :: er).length ≤ 1000000) :
    Calls Try.prog 55 #[.pointer (some ⟨g, 0, none⟩)] w fun e w' => e = .returned (.tuple #[.agg #[.int .u32 (minu e0 er).f0, .int .i64 (minu e0 er).f1, .bool (minu e0 er).f2], .bool true]) ∧ Below w.heap.size w w' := by
  have HL := Aside0.mk (fun W hW => lenu_c W g b (e0 :: er) room span hW)
  have HT := Aside0.mk H
  have HB := Aside0.mk (Below.refl w.heap.size w)
  obtain ⟨sl, hg, hs⟩ := H
  rcases hs with ⟨rfl, h0, rfl⟩ | ⟨hne, c, rest, rfl, hr, hl, hc⟩
  · cases h0
  have hlc : (e0 :: er).length ≤ c := by
    rw [List.length_append, encsu_len] at hl
    omega
  have HM := Aside0.mk (fun W hW => minfu_c W b c e0 er rest hW hlc hn)
  have HR := Aside0.mk hr
  have HG := Aside0.mk hg
  have hnz : (((e0 :: er).length : Int) == 0) = false := by simp; omega
  obtain ⟨m, hm⟩ : ∃ m, minu e0 er = m := ⟨_, rfl⟩
  obtain ⟨n, hn'⟩ : ∃ n, (e0 :: er).length = n := ⟨_, rfl⟩
  rw [hm, hn'] at HM
  rw [hn'] at HG HL hnz
  rw [hm]
  clear hl hc hr hg hlc hn hn' hm
  go_enter Try.func55, Try.ntmps55
  go_upto_region 1 with (first | ((with_reducible refine gate_dst (N := 2) rfl ?_); refine box_event ?hg (N := 2) ?hd (cs := #[.int .u32 0, .int .i64 0, .bool false]) (t := 37) ?hr ?_; (case hd => rfl); (case hg => rfl); (case hr => go_simp; try rfl); intro gr hg_ wr1 hx_ hb_; have Gr := Aside0.mk hg_; have Hr := Aside0.mk hb_; have Br := Aside0.mk hx_; clear hg_ hx_ hb_; skip) | fail)
  have PR := Aside0.mk (PH.start HB.out Hr.out Gr.out Br.out)
  clear Gr Hr Br HB
  go_wp2_with (first | (go_at_call 13; refine (HL.out _ (HT.out.below PR.out.bel)).mono ?_; rintro e_ w1 ⟨rfl, hb_⟩; have PR := Aside0.mk (PR.out.below hb_); have hcell : w1.cell? ⟨g, 0, none⟩ = some (.slice (some ⟨b, 0, none⟩) n c) := (blk_cell (blk_below HG.out PR.out.bel) 0).trans rfl; clear hb_) | (go_at_call 65; refine (HM.out _ (blk_below HR.out PR.out.bel)).mono ?_; rintro e_ w2 ⟨rfl, hb_⟩; have PR := Aside0.mk (PR.out.below hb_); clear hb_) | ((with_reducible refine gate_store (t := 37) (p := 2) rfl ?_); refine wpList_store_row rfl 37 _ _ rfl gr #[.int .u32 m.f0, .int .i64 m.f1, .bool m.f2] rfl rfl 37 _ PR.out.row (by kernel_rfl) (by rfl) (by simp [Value.oneCell']) ?_) | fail)
  refine bodyPost_ret (results_cell_row_tmp rfl _ _ gr 37 #[.int .u32 m.f0, .int .i64 m.f1, .bool m.f2] (0, 0) _ _ rfl (PR.out.set _).row Try.underlying37 rfl (by kernel_rfl) rfl) rfl ?_
  exact ⟨rfl, (PR.out.set _).bel⟩
end Go.Proofs.Ytbifanoiailjoaa.MRatePlays

/- A table's entries as a list: what is put out, and what stays. -/
namespace Go.Proofs.Ytbifanoiailjoaa.MRatePlays
open Go.RowKit Go.Proofs.YtbifanoiailjoaaW.PrintWords Go.Proofs.YtbifanoiailjoaaW.PrintLast Go.Proofs.YtbifanoiailjoaaW.PrintMore Go.Proofs.Ytbifanoiailjoaa.Base
set_option linter.unusedVariables false
set_option linter.unusedSimpArgs false

theorem cpu_ge (a b : Int) : 0 ≤ cpu a b ↔ ltu a b = false := by
  have := cpu_neg a b
  cases h : ltu a b with
  | true => rw [h] at this; simp at this; simp; omega
  | false => rw [h] at this; simp at this; simp; omega
theorem hasu_at (es : List S37) (h : Riseu es) (m : Nat) (hm : m < es.length) : lowu es es[m].f0 = m ∧ hasu es es[m].f0 = true := by
  have hl : lowu es es[m].f0 = m := by
    refine lowu_is _ es m (by omega) (fun t ht => ?_) (fun t h1 h2 => ?_)
    · rw [rdu_get es t (by omega), cpu_neg]
      exact List.pairwise_iff_getElem.1 h t m (by omega) hm ht
    · rw [rdu_get es t h2, cpu_ge]
      rcases Nat.lt_or_ge m t with q | q
      · exact ltu_asym _ _ (List.pairwise_iff_getElem.1 h m t hm h2 q)
      · obtain rfl : t = m := by omega
        exact ltu_irr _
  refine ⟨hl, ?_⟩
  rw [hasu_eq es _ m hl, rdu_get es m hm]
  have : cpu es[m].f0 es[m].f0 = 0 := (cpu_zero _ _).2 rfl
  simp [hm, this]
theorem hasu_mem (es : List S37) (h : Riseu es) (x : S37) (hx : x ∈ es) : hasu es x.f0 = true := by
  obtain ⟨m, hm, rfl⟩ := List.getElem_of_mem hx
  exact (hasu_at es h m hm).2
theorem fgtu_sub (es : List S37) (key : Int) : (fgtu es key).Sublist es := by
  unfold fgtu
  split
  · rename_i h
    have hp := partu es _ (hasu_lt es key h)
    have : (es.take (lowu es key) ++ es.drop (lowu es key + 1)).Sublist (es.take (lowu es key) ++ [rd_T37 es (lowu es key)] ++ es.drop (lowu es key + 1)) :=
      List.Sublist.append (List.sublist_append_left _ _) (List.Sublist.refl _)
    rwa [← hp] at this
  · exact List.Sublist.refl _
theorem fgtu_rise (es : List S37) (key : Int) (h : Riseu es) : Riseu (fgtu es key) := List.Pairwise.sublist (fgtu_sub es key) h
theorem fgtu_len (es : List S37) (key : Int) (h : hasu es key = true) : (fgtu es key).length + 1 = es.length := by
  have hl := hasu_lt es key h
  unfold fgtu
  rw [if_pos h, List.length_append, List.length_take, List.length_drop]
  omega
def cutu : Nat → List S37 → List S37
  | 0, es => es
  | _ + 1, [] => []
  | n + 1, e0 :: er => cutu n (fgtu (e0 :: er) (minu e0 er).f0)
theorem cutu_rise : ∀ (n : Nat) (es : List S37), Riseu es → Riseu (cutu n es)
  | 0, es, h => h
  | _ + 1, [], h => h
  | n + 1, e0 :: er, h => cutu_rise n _ (fgtu_rise _ _ h)
theorem cutu_sub : ∀ (n : Nat) (es : List S37), (cutu n es).Sublist es
  | 0, es => List.Sublist.refl _
  | _ + 1, [] => List.Sublist.refl _
  | n + 1, e0 :: er => (cutu_sub n _).trans (fgtu_sub _ _)
theorem cutu_len : ∀ (n : Nat) (es : List S37), Riseu es → n ≤ es.length → (cutu n es).length = es.length - n
  | 0, es, h, _ => rfl
  | _ + 1, [], h, hn => by simp at hn
  | n + 1, e0 :: er, h, hn => by
    have h1 := fgtu_len (e0 :: er) (minu e0 er).f0 (hasu_mem _ h _ (minu_mem e0 er))
    have := cutu_len n (fgtu (e0 :: er) (minu e0 er).f0) (fgtu_rise _ _ h) (by omega)
    show (cutu n (fgtu (e0 :: er) (minu e0 er).f0)).length = _
    rw [this]
    omega
set_option maxHeartbeats 4000000 in
set_option maxRecDepth 100000 in
theorem trimu_c (w : World) (g b : Nat) (es : List S37) (room span : Int) (most : Nat) (H : Tabu w g b es room span) (hS : Riseu es) (hn : es.length ≤ 1000000) :
    Calls Try.prog 49 #[.pointer (some ⟨g, 0, none⟩), .int .i64 most] w fun e w' => e = .returned (.tuple #[]) ∧ Tabu w' g b (cutu (es.length - most) es) room span ∧ Fr (fun k => k = g ∨ k = b) w w' := by
  have HT := Aside0.mk H
  have HS := Aside0.mk hS
  have HN := Aside0.mk hn
  clear H hS hn
  go_enter Try.func49, Try.ntmps49
  go_wp2
  go_loopg [] es.length (fun kx wr => ∃ es1 : List S37, es1.length ≤ kx ∧ Aside0 (Tabu wr g b es1 room span) ∧ Aside0 (Riseu es1) ∧ Aside0 (es1.length ≤ 1000000) ∧ Aside0 (cutu (es1.length - most) es1 = cutu (es.length - most) es) ∧ Aside0 (Fr (fun k => k = g ∨ k = b) w wr))
  case atStart => exact ⟨es, Nat.le_refl _, HT, HS, HN, ⟨rfl⟩, ⟨Fr.refl _ _⟩⟩
  case round =>
    obtain ⟨es1, hk, T1, S1, N1, C1, F1⟩ := hrel
    obtain ⟨sl, hg, hs⟩ := T1.out
    obtain ⟨A, c, rfl⟩ : ∃ A c, sl = .slice A es1.length c := by
      rcases hs with ⟨rfl, h0, _⟩ | ⟨hne, c, rest, rfl, hr, hl, hc⟩
      · subst h0
        exact ⟨none, 0, rfl⟩
      · exact ⟨_, _, rfl⟩
    have hcell : wr.cell? ⟨g, 0, none⟩ = some (.slice A es1.length c) := (blk_cell hg 0).trans rfl
    clear hs hg
    by_cases hlt : most < es1.length
    · have hlti : (most : Int) < (es1.length : Int) := by omega
      obtain ⟨e0, er, he⟩ : ∃ e0 er, es1 = e0 :: er := by
        cases es1 with
        | nil => simp at hlt
        | cons x r => exact ⟨x, r, rfl⟩
      have HO := Aside0.mk (fun W (hW : Tabu W g b es1 room span) => oldestu_c W g b e0 er room span (he ▸ hW) (he ▸ N1.out))
      have hm : hasu es1 (minu e0 er).f0 = true := hasu_mem es1 S1.out _ (he ▸ minu_mem e0 er)
      have hcut : cutu (es1.length - most) es1 = cutu ((fgtu es1 (minu e0 er).f0).length - most) (fgtu es1 (minu e0 er).f0) := by
        have h1 := fgtu_len es1 _ hm
        obtain ⟨d, hd⟩ : ∃ d, es1.length - most = d + 1 := ⟨es1.length - most - 1, by omega⟩
        rw [hd, show (fgtu es1 (minu e0 er).f0).length - most = d by omega, he]
        rfl
      obtain ⟨m, hmm⟩ : ∃ m, minu e0 er = m := ⟨_, rfl⟩
      rw [hmm] at HO hm hcut
      have HM := Aside0.mk hm
      have HC := Aside0.mk hcut
      have HLT := Aside0.mk hlt
      have HFO := Aside0.mk (fun W (hW : Tabu W g b es1 room span) => forgetu_c W g b es1 room span m.f0 hW S1.out N1.out)
      have HB := Aside0.mk (Below.refl wr.heap.size wr)
      clear he hmm hm hcut hlt
      go_upto_region 2 with (first | (go_at_call 55; refine (HO.out _ T1.out).mono ?_; rintro e_ w1 ⟨rfl, hb_⟩; have HB := Aside0.mk hb_; clear hb_) | ((with_reducible refine gate_dst (N := 4) rfl ?_); refine box_event ?hg (N := 4) ?hd (cs := #[.int .u32 0, .int .i64 0, .bool false]) (t := 37) ?hr ?_; (case hd => rfl); (case hg => rfl); (case hr => go_simp; try rfl); intro gm hg_ wm hx_ hb_; have Gm := Aside0.mk hg_; have Hm := Aside0.mk hb_; have Bm := Aside0.mk hx_; clear hg_ hx_ hb_; skip) | ((with_reducible refine gate_store (t := 37) (p := 4) rfl ?_); refine wpList_store_row rfl 37 _ _ rfl gm #[.int .u32 m.f0, .int .i64 m.f1, .bool m.f2] rfl rfl 37 _ Bm.out (by kernel_rfl) (by rfl) (arru_one m) ?_) | fail)
      have PM := Aside0.mk ((PH.start HB.out Hm.out Gm.out Bm.out).set #[.int .u32 m.f0, .int .i64 m.f1, .bool m.f2])
      generalize wm.setRow gm #[.int .u32 m.f0, .int .i64 m.f1, .bool m.f2] = w2 at PM ⊢
      have hk0 : w2.cell? ⟨gm, 0, none⟩ = some (.int .u32 m.f0) := (blk_cell PM.out.row 0).trans rfl
      clear hcell
      go_wp2_with (first | (go_at_call 28; refine (HFO.out _ (T1.out.below PM.out.bel)).mono ?_; rintro e_ w3 ⟨rfl, ht_, hf_⟩; have T3 := Aside0.mk ht_; have F3 := Aside0.mk ((F1.out.below PM.out.bel).trans hf_ (fun j hj => .inl hj)); clear ht_ hf_) | fail)
      go_roundg ((fgtu es1 m.f0).length)
      case measure => have := fgtu_len es1 m.f0 HM.out; omega
      case rel => exact ⟨_, Nat.le_refl _, T3, ⟨fgtu_rise _ _ S1.out⟩, ⟨by have := fgtu_len es1 m.f0 HM.out; have := N1.out; omega⟩, ⟨HC.out ▸ C1.out⟩, F3⟩
    · have hlti : ¬ (most : Int) < (es1.length : Int) := by omega
      have he : cutu (es.length - most) es = es1 := by
        rw [← C1.out, show es1.length - most = 0 by omega]
        rfl
      have HE := Aside0.mk he
      clear he
      go_wp2
      go_end0
      exact ⟨rfl, by rw [HE.out]; exact T1.out, F1.out⟩
end Go.Proofs.Ytbifanoiailjoaa.MRatePlays

/- An entry put in. -/
namespace Go.Proofs.Ytbifanoiailjoaa.MRatePlays
open Go.RowKit Go.Proofs.YtbifanoiailjoaaW.PrintWords Go.Proofs.YtbifanoiailjoaaW.PrintLast Go.Proofs.YtbifanoiailjoaaW.PrintMore Go.Proofs.Ytbifanoiailjoaa.Base
set_option linter.unusedVariables false
set_option linter.unusedSimpArgs false

theorem zclu (k : Nat) : (Builtin.zeroCells (Value.agg #[.int .u32 0, .int .i64 0, .bool false]).cells k).toList.length = k * 3 := by
  simp [Builtin.zeroCells, Value.cells]
theorem encsu_x (x : S37) : encsu [x] = encu x := by simp [encsu]
/-- What a put-in leaves. -/
def Putu (w : World) (b : Nat) (es : List S37) (e : Ending) (w' : World) : Prop :=
  ∃ (b' c' : Nat) (rest' : List Value), e = .returned (.slice (some ⟨b', 0, none⟩) es.length c') ∧ Rowu w' b' es rest' ∧ (encsu es ++ rest').length = c' * 3 ∧ c' ≤ 9223372036854775807 ∧ (b' = b ∨ w.heap.size ≤ b') ∧ Fr (fun k => k = b) w w'
theorem srcu (w : World) (gv : Nat) (x : S37) (hv : w.heap[gv]? = some (.cells (encu x).toArray 37 (0, 0))) : Src Try.prog 3 43 (.slice (some ⟨gv, 0, none⟩) 1 1) 1 (encu x) w :=
  Src.ofSlice w Try.underlying43 ⟨gv, 0, none⟩ 1 1 (encu x) rfl (fun j u hj => by rw [Addr.add_lit, blk_cell hv, ← hj]; simp) (fun v hv => List.all_eq_true.1 (encu_one x) v hv)
theorem growu (w : World) (base : Option Addr) (c b gv : Nat) (es : List S37) (x : S37) (rest : List Value) (hb : (base = none ∧ es = [] ∧ c = 0) ∨ (base = some ⟨b, 0, none⟩ ∧ Rowu w b es rest ∧ es.length = c))
    (hn : es.length ≤ 1000000) (hv : w.heap[gv]? = some (.cells (encu x).toArray 37 (0, 0))) :
    ∃ (G : Nat) (rest' : List Value), (∀ ty, (Builtin.append_ #[43, 43] ty #[.slice base es.length c, .slice (some ⟨gv, 0, none⟩) 1 1]).run Try.prog w = .ok (.slice (some ⟨w.heap.size, 0, none⟩) (es.length + 1) G) (w.drew.alloc (.cells (encsu (es ++ [x]) ++ rest').toArray 37))) ∧ (encsu (es ++ [x]) ++ rest').length = G * 3 ∧ G ≤ 9223372036854775807 := by
  obtain ⟨i, hi, hz, hs, hby⟩ := infou
  have hc : es.length = c := by
    rcases hb with ⟨_, rfl, rfl⟩ | ⟨_, _, h⟩
    · rfl
    · exact h
  have hold : (Builtin.firstCells 3 es.length (.slice base es.length c)).run Try.prog w.drew = .ok (encsu es).toArray w.drew := by
    rcases hb with ⟨rfl, rfl, rfl⟩ | ⟨rfl, hr, _⟩
    · exact run_firstCells_none w.drew 3 0 0 0
    · refine run_firstCells_some w.drew 3 es.length _ es.length c (encsu es) (by rw [encsu_len]; omega) (fun j v hj => ?_)
      exact rowu_src (W := w.drew) (show Rowu w.drew b es rest from hr) [] es [] (by simp) 0 (by simp) j v hj
  have hG1 := grownCap_ge w (es.length + 1) c 37
  have hG2 := grownCap_le_maxLen w (es.length + 1) c 37 (by unfold maxLen; omega)
  refine ⟨grownCap w (es.length + 1) c 37, (Builtin.zeroCells (Value.agg #[.int .u32 0, .int .i64 0, .bool false]).cells (grownCap w (es.length + 1) c 37 - (es.length + 1))).toList, fun ty => ?_, ?_, by unfold maxLen at hG2; omega⟩
  · have h := run_append_grow_src (P := Try.prog) w 43 43 ty 37 i _ Try.underlying43 hi hz base es.length c (encsu es) (by rw [hs]; exact hold) _ 1 (encu x) (by rw [hs]; exact srcu w gv x hv) (by omega) (by omega) (by rw [hby]; exact growslice_fits (by omega) (by omega))
    have he : (encsu es ++ encu x).toArray ++ Builtin.zeroCells (Value.agg #[.int .u32 0, .int .i64 0, .bool false]).cells (grownCap w (es.length + 1) c 37 - (es.length + 1)) = (encsu (es ++ [x]) ++ (Builtin.zeroCells (Value.agg #[.int .u32 0, .int .i64 0, .bool false]).cells (grownCap w (es.length + 1) c 37 - (es.length + 1))).toList).toArray := by
      rw [encsu_app, encsu_x]
      apply Array.ext'
      rw [Array.toList_append]
    rw [h, he]
  · rw [List.length_append, encsu_len, zclu, List.length_append, List.length_singleton]
    omega
set_option maxHeartbeats 4000000 in
set_option maxRecDepth 100000 in
theorem insendu_grow (w : World) (base : Option Addr) (c b gv : Nat) (es : List S37) (x : S37) (rest : List Value) (hb : (base = none ∧ es = [] ∧ c = 0) ∨ (base = some ⟨b, 0, none⟩ ∧ Rowu w b es rest ∧ es.length = c))
    (hn : es.length ≤ 1000000) (hv : w.heap[gv]? = some (.cells (encu x).toArray 37 (0, 0))) :
    Calls Try.prog 56 #[.slice base es.length c, .int .i64 es.length, .slice (some ⟨gv, 0, none⟩) 1 1] w (Putu w b (es ++ [x])) := by
  obtain ⟨G, rest', hrun, hl, hG⟩ := growu w base c b gv es x rest hb hn hv
  have HL := Aside0.mk (And.intro hl hG)
  have hc : es.length = c := by
    rcases hb with ⟨_, rfl, rfl⟩ | ⟨_, _, h⟩
    · rfl
    · exact h
  have hc0 : base = none ∨ base = some ⟨b, 0, none⟩ := by
    rcases hb with ⟨h, _⟩ | ⟨h, _⟩
    · exact .inl h
    · exact .inr h
  subst hc
  have hfin : ∀ (W : World), W = w.drew.alloc (.cells (encsu (es ++ [x]) ++ rest').toArray 37) → Putu w b (es ++ [x]) (.returned (.slice (some ⟨w.heap.size, 0, none⟩) (es.length + 1) G)) W := by
    rintro W rfl
    refine ⟨w.heap.size, G, rest', by simp, ?_, hl, hG, .inr (Nat.le_refl _), (Fr.refl _ w).drew.alloc _⟩
    exact blk_new _ _
  have HF := Aside0.mk hfin
  clear hfin hl hG hb hv
  have hb0 : (0 : Int) ≤ (es.length : Int) := by omega
  rcases hc0 with rfl | rfl
  · go_enter Try.func56, Try.ntmps56
    go_wp2_with (first | ((with_reducible refine gate_dst (N := 25) rfl ?_); refine Lib.wpList_append_run _ rfl _ _ 43 43 rfl _ _ rfl rfl _ _ (hrun _) ?_; have hq_ := HF.out _ rfl) | fail)
    go_ret
    exact hq_
  · have hcase : (if es.length = es.length then some (⟨b, 0, none⟩ : Addr) else some ⟨b, es.length * 3, none⟩) = some ⟨b, 0, none⟩ := if_pos rfl
    go_enter Try.func56, Try.ntmps56
    go_wp2_with (first | ((with_reducible refine gate_dst (N := 25) rfl ?_); refine Lib.wpList_append_run _ rfl _ _ 43 43 rfl _ _ rfl rfl _ _ (hrun _) ?_; have hq_ := HF.out _ rfl) | fail)
    go_ret
    exact hq_
theorem vcellu {W : World} {gv : Nat} {x : S37} (hv : W.heap[gv]? = some (.cells (encu x).toArray 37 (0, 0))) (j : Nat) (u : Value) (hj : (encu x)[j]? = some u) : W.cell? ((⟨gv, 0, none⟩ : Addr).add j) = some u := by
  rw [Addr.add_lit, blk_cell hv, ← hj]
  simp
set_option maxHeartbeats 4000000 in
set_option maxRecDepth 100000 in
theorem insendu_room (w : World) (c b gv : Nat) (es : List S37) (x : S37) (rest : List Value) (hr : Rowu w b es rest) (hl : (encsu es ++ rest).length = c * 3) (hroom : es.length + 1 ≤ c) (hcm : c ≤ 9223372036854775807)
    (hv : w.heap[gv]? = some (.cells (encu x).toArray 37 (0, 0))) :
    Calls Try.prog 56 #[.slice (some ⟨b, 0, none⟩) es.length c, .int .i64 es.length, .slice (some ⟨gv, 0, none⟩) 1 1] w (Putu w b (es ++ [x])) := by
  obtain ⟨i, hi, hz, hs, hby⟩ := infou
  obtain ⟨B, C, hBC, hB⟩ : ∃ (B C : List Value), rest = B ++ C ∧ B.length = 3 := ⟨rest.take 3, rest.drop 3, (List.take_append_drop _ _).symm, by
    rw [List.length_append, encsu_len] at hl
    rw [List.length_take]
    omega⟩
  have hrun : ∀ ty, (Builtin.append_ #[43, 43] ty #[.slice (some ⟨b, 0, none⟩) es.length c, .slice (some ⟨gv, 0, none⟩) 1 1]).run Try.prog w = .ok (.slice (some ⟨b, 0, none⟩) (es.length + 1) c) (w.setRow b (encsu (es ++ [x]) ++ C).toArray) := fun ty => by
    have h := run_append_mid w 43 ty 37 i Try.underlying43 hi b es.length c ⟨gv, 0, none⟩ 1 1 (encu x) (by rw [hs]; rfl) (fun j u hj => vcellu hv j u hj) (fun v hv => List.all_eq_true.1 (encu_one x) v hv) hroom 37 (encsu es) B C (by rw [hr, hBC, List.append_assoc]) (by rw [hB]; rfl) (by rw [encsu_len, hs]; omega)
    rw [h, encsu_app, encsu_x]
  have hl2 : (encsu (es ++ [x]) ++ C).length = c * 3 := by
    rw [← hl, hBC]
    simp only [List.length_append, encsu_len, hB, List.length_singleton]
    omega
  have hfin : ∀ (W : World), W = w.setRow b (encsu (es ++ [x]) ++ C).toArray → Putu w b (es ++ [x]) (.returned (.slice (some ⟨b, 0, none⟩) (es.length + 1) c)) W := by
    rintro W rfl
    refine ⟨b, c, C, by simp, setRow_heap w b _ _ _ _ hr, hl2, hcm, .inl rfl, (Fr.refl _ w).set b _ (.inl rfl)⟩
  have HF := Aside0.mk hfin
  have hb0 : (0 : Int) ≤ (es.length : Int) := by omega
  obtain ⟨ad, had⟩ : ∃ ad : Option Addr, (if c = es.length then some (⟨b, 0, none⟩ : Addr) else some ⟨b, es.length * 3, none⟩) = ad := ⟨_, rfl⟩
  have hcn : es.length ≤ c := by omega
  clear hfin hl hv hr hl2 hBC hB hi hz hs hby
  go_enter Try.func56, Try.ntmps56
  go_wp2_with (first | ((with_reducible refine gate_dst (N := 25) rfl ?_); refine Lib.wpList_append_run _ rfl _ _ 43 43 rfl _ _ rfl rfl _ _ (hrun _) ?_; have hq_ := HF.out _ rfl) | fail)
  go_ret
  exact hq_
theorem sizeu (w : World) : (Go.sizeOf 37).run Try.prog w = .ok 3 w := by
  obtain ⟨i, hi, hz, hs, hby⟩ := infou
  simp [Go.sizeOf, typeInfo, hi, hs]
theorem overlapsu (W : World) (gv b o lb cb : Nat) (cs cb' : Array Value) (hne : gv ≠ b) (hv : W.heap[gv]? = some (.cells cs 37 (0, 0))) (hb : W.heap[b]? = some (.cells cb' 37 (0, 0))) (hs : cb'.size ≠ 0) :
    (callFunc 67 #[.slice (some ⟨gv, 0, none⟩) 1 1, .slice (some ⟨b, o, none⟩) lb cb]).run Try.prog W = .ok (.value (.bool false)) W := by
  rw [run_callFunc_extern Try.func67 (by kernel_rfl) (by kernel_rfl) (by kernel_rfl) (e := Extern.SlicesOverlaps.overlaps #[43, 43] #[4]) (by kernel_rfl),
    Lib.run_overlaps_apart W 43 4 37 Try.underlying43 3 sizeu ⟨gv, 0, none⟩ ⟨b, o, none⟩ 1 1 lb cb hne 37 37 cs.size cb'.size (by simp [World.shape?, hv]) (by simp [World.shape?, hb]) hs (blk_frozen hv 0) (blk_frozen hv _)]
  rfl
set_option maxHeartbeats 4000000 in
set_option maxRecDepth 100000 in
theorem insmidu_room (w : World) (c b gv : Nat) (A C1 : List S37) (c0 x : S37) (rest : List Value) (hne : gv ≠ b) (hr : Rowu w b (A ++ c0 :: C1) rest) (hl : (encsu (A ++ c0 :: C1) ++ rest).length = c * 3) (hroom : A.length + C1.length + 1 + 1 ≤ c) (hcm : c ≤ 9223372036854775807)
    (hv : w.heap[gv]? = some (.cells (encu x).toArray 37 (0, 0))) (hn : A.length + C1.length ≤ 1000000) :
    Calls Try.prog 56 #[.slice (some ⟨b, 0, none⟩) (A.length + C1.length + 1) c, .int .i64 A.length, .slice (some ⟨gv, 0, none⟩) 1 1] w (Putu w b (A ++ x :: c0 :: C1)) := by
  obtain ⟨i, hi, hz, hs, hby⟩ := infou
  obtain ⟨B, D, hBD, hB⟩ : ∃ (B D : List Value), rest = B ++ D ∧ B.length = 3 := ⟨rest.take 3, rest.drop 3, (List.take_append_drop _ _).symm, by
    rw [List.length_append, encsu_len] at hl
    rw [List.length_take]
    simp at hl
    omega⟩
  have e0 : ∀ r : List S37, encsu (c0 :: r) = encu c0 ++ encsu r := fun r => rfl
  have hcp1 : ∀ W : World, Rowu W b (A ++ c0 :: C1) rest → ∀ ty dl dc sl sc, Nat.min sl dl = C1.length + 1 → (Builtin.copy_ #[43, 43] ty #[.slice (some ⟨b, (A.length + 1) * 3, none⟩) dl dc, .slice (some ⟨b, A.length * 3, none⟩) sl sc]).run Try.prog W =
      .ok (goInt (C1.length + 1)) (W.setRow b (encsu A ++ encu c0 ++ encsu (c0 :: C1) ++ D).toArray) := fun W hW ty dl dc sl sc hm =>
    run_copy_mid W 43 43 ty 37 b ((A.length + 1) * 3) dl dc ⟨b, A.length * 3, none⟩ sl sc (encsu (c0 :: C1)) i Try.underlying43 hi (C1.length + 1) hm.symm (by rw [encsu_len, hs]; simp; omega) (fun j u hj => rowu_src hW A (c0 :: C1) [] (by simp) _ rfl j u hj) (encsu_one _) 37 (encsu A ++ encu c0) (encsu C1 ++ B) D
      (by rw [hW, encsu_app, e0, hBD]; simp) (by rw [encsu_len, List.length_append, encsu_len, hB]; simp; omega) (by rw [List.length_append, encsu_len]; simp [encu]; omega)
  have hcp2 : ∀ W : World, W.heap[b]? = some (.cells (encsu A ++ encu c0 ++ encsu (c0 :: C1) ++ D).toArray 37 (0, 0)) → W.heap[gv]? = some (.cells (encu x).toArray 37 (0, 0)) → ∀ ty dl dc, 1 ≤ dl → (Builtin.copy_ #[43, 43] ty #[.slice (some ⟨b, A.length * 3, none⟩) dl dc, .slice (some ⟨gv, 0, none⟩) 1 1]).run Try.prog W =
      .ok (goInt 1) (W.setRow b (encsu A ++ encu x ++ (encsu (c0 :: C1) ++ D)).toArray) := fun W hW hV ty dl dc hm =>
    run_copy_mid W 43 43 ty 37 b (A.length * 3) dl dc ⟨gv, 0, none⟩ 1 1 (encu x) i Try.underlying43 hi 1 (by simp only [Nat.min_def]; split <;> omega) (by rw [hs]; rfl) (fun j u hj => vcellu hV j u hj) (fun v hv => List.all_eq_true.1 (encu_one x) v hv) 37 (encsu A) (encu c0) (encsu (c0 :: C1) ++ D)
      (by rw [hW]; simp) rfl (by rw [encsu_len]; omega)
  have hcell : ∀ W : World, Rowu W b (A ++ c0 :: C1) rest → (encsu (A ++ c0 :: C1) ++ rest).toArray.size ≠ 0 := fun W hW => by
    rw [List.size_toArray, hl]
    omega
  have hov : ∀ lb cb, (callFunc 67 #[.slice (some ⟨gv, 0, none⟩) 1 1, .slice (some ⟨b, (A.length + 1) * 3, none⟩) lb cb]).run Try.prog w = .ok (.value (.bool false)) w := fun lb cb =>
    overlapsu w gv b _ lb cb _ _ hne hv hr (hcell w hr)
  have hl2 : (encsu (A ++ x :: c0 :: C1) ++ D).length = c * 3 := by
    rw [← hl, hBD]
    simp only [List.length_append, encsu_len, hB, List.length_cons]
    omega
  have hfin : ∀ (W : World), Fr (fun k => k = b) w W → (∃ cs, W.heap[b]? = some (.cells cs 37 (0, 0))) → Putu w b (A ++ x :: c0 :: C1) (.returned (.slice (some ⟨b, 0, none⟩) (A.length + C1.length + 1 + 1) c)) (W.setRow b (encsu A ++ encu x ++ (encsu (c0 :: C1) ++ D)).toArray) := by
    rintro W hF ⟨cs, hcs⟩
    refine ⟨b, c, D, ?_, ?_, hl2, hcm, .inl rfl, hF.set b _ (.inl rfl)⟩
    · rw [show (A ++ x :: c0 :: C1).length = A.length + C1.length + 1 + 1 by simp; omega]
    · show _ = _
      rw [setRow_heap W b _ _ _ _ hcs, encsu_app]
      simp [encsu]
  have HF := Aside0.mk hfin
  have HR := Aside0.mk hr
  have HV := Aside0.mk hv
  have HNE := Aside0.mk hne
  obtain ⟨p, hp⟩ : ∃ p, A.length = p := ⟨_, rfl⟩
  obtain ⟨q, hq⟩ : ∃ q, C1.length = q := ⟨_, rfl⟩
  rw [hp, hq] at hroom hn HF hcp1
  rw [hp] at hcp2 hov
  rw [hp, hq]
  have HC1 := Aside0.mk hcp1
  have HC2 := Aside0.mk hcp2
  have hb0 : (0 : Int) ≤ (p : Int) := by omega
  have hb1 : (p : Int) ≤ (p : Int) + (q : Int) + 1 := by omega
  have hb2 : ¬ ((p : Int) = (p : Int) + (q : Int) + 1) := by omega
  have hb3 : ¬ ((c : Int) < (p : Int) + (q : Int) + 1 + 1) := by omega
  have hb4 : ¬ (c = p + 1) := by omega
  have hb5 : ¬ (c = p) := by omega
  clear hfin hr hv hne hcp1 hcp2 hl hl2 hcell hBD hB hi hz hs hby hp hq e0
  go_enter Try.func56, Try.ntmps56
  go_wp2_with (simp only [hov])
  have hb6 : (p : Int) ≤ (p : Int) + (q : Int) + 1 + 1 := by omega
  have hb7 : (p : Int) + 1 ≤ (p : Int) + (q : Int) + 1 + 1 := by omega
  have hb8 : (0 : Int) ≤ (p : Int) + 1 := by omega
  have hw1 : IntKind.i64.wrap ((p : Int) + 1) = (p : Int) + 1 := by rw [IntKind.wrap_i64]; omega
  have htn : ((p : Int) + 1).toNat = p + 1 := by omega
  have hcp := HC1.out w.drew HR.out 3 (p + q + 1 - p) (c - (p + 1)) (p + q + 1 + 1 - p) (c - p) (by show min _ _ = _; omega)
  go_region_law (refine step_copy_runI rfl _ _ 43 43 rfl (.slice (some ⟨b, (p + 1) * 3, none⟩) (p + q + 1 - p) (c - (p + 1))) (.slice (some ⟨b, p * 3, none⟩) (p + q + 1 + 1 - p) (c - p)) (by simp [Act.eval, Act.put]) (by simp [Act.eval, Act.put]) hcp ?_)
  have hR1 := setRow_heap w.drew b _ (encsu A ++ (encu c0 ++ (encsu (c0 :: C1) ++ D))).toArray _ _ HR.out
  have hF1 : Fr (fun k => k = b) w (w.drew.setRow b (encsu A ++ (encu c0 ++ (encsu (c0 :: C1) ++ D))).toArray) := (Fr.refl _ w).drew.set b _ (.inl rfl)
  have hV1 := (setRow_ne w.drew b gv (encsu A ++ (encu c0 ++ (encsu (c0 :: C1) ++ D))).toArray HNE.out).trans HV.out
  clear hcp hov
  generalize w.drew.setRow b (encsu A ++ (encu c0 ++ (encsu (c0 :: C1) ++ D))).toArray = W1 at hR1 hF1 hV1 ⊢
  have hcp := HC2.out W1 (by rw [hR1]; simp only [List.append_assoc]) hV1 3 (p + q + 1 + 1 - p) (c - p) (by omega)
  have hq0 := HF.out W1 hF1 ⟨_, hR1⟩
  rw [List.append_assoc (encsu A)] at hq0
  have hq := Aside0.mk hq0
  clear hq0
  clear hR1 hF1 hV1
  go_wp2_with (first | ((with_reducible refine gate_dst (N := 82) rfl ?_); refine wpList_copy_runI _ rfl _ _ 43 43 rfl _ _ rfl rfl hcp ?_) | fail)
  go_ret
  exact hq.out
set_option maxHeartbeats 4000000 in
set_option maxRecDepth 100000 in
theorem insmidu_grow (w : World) (c b gv : Nat) (A C1 : List S37) (c0 x : S37) (rest : List Value) (hr : Rowu w b (A ++ c0 :: C1) rest) (hc : A.length + C1.length + 1 = c)
    (hv : w.heap[gv]? = some (.cells (encu x).toArray 37 (0, 0))) (hn : A.length + C1.length ≤ 1000000) :
    Calls Try.prog 56 #[.slice (some ⟨b, 0, none⟩) (A.length + C1.length + 1) c, .int .i64 A.length, .slice (some ⟨gv, 0, none⟩) 1 1] w (Putu w b (A ++ x :: c0 :: C1)) := by
  obtain ⟨i, hi, hz, hs, hby⟩ := infou
  have e0 : ∀ r : List S37, encsu (c0 :: r) = encu c0 ++ encsu r := fun r => rfl
  have hold : (Builtin.firstCells 3 A.length (.slice (some ⟨b, 0, none⟩) A.length c)).run Try.prog w.drew = .ok (encsu A).toArray w.drew := by
    refine run_firstCells_some w.drew 3 A.length _ A.length c (encsu A) (by rw [encsu_len]; omega) (fun j v hj => ?_)
    exact rowu_src (W := w.drew) (show Rowu w.drew b (A ++ c0 :: C1) rest from hr) [] A (c0 :: C1) (by simp) 0 (by simp) j v hj
  obtain ⟨G, hG⟩ : ∃ G, grownCap w (A.length + (C1.length + 1 + 1)) c 37 = G := ⟨_, rfl⟩
  have hG1 := grownCap_ge w (A.length + (C1.length + 1 + 1)) c 37
  have hG2 := grownCap_le_maxLen w (A.length + (C1.length + 1 + 1)) c 37 (by unfold maxLen; omega)
  rw [hG] at hG1 hG2
  have hrun0 : ∀ ty, (Builtin.append_ #[43, 3] ty #[.slice (some ⟨b, 0, none⟩) A.length c, .int .i64 ((C1.length + 1 + 1 : Nat) : Int)]).run Try.prog w = _ := fun ty => Lib.run_append_grow_zeros w 43 3 ty 37 i _ .i64 .i64 Try.underlying43 Try.underlying3 hi hz (some ⟨b, 0, none⟩) A.length c (encsu A) (by rw [hs]; exact hold) (C1.length + 1 + 1) (by omega) (by omega) (by omega) (by omega) (by rw [hby]; omega) (by rw [hby]; exact growslice_fits (by omega) (by omega))
  obtain ⟨Z, hZ, hZl⟩ : ∃ Z : List Value, (encsu A).toArray ++ Builtin.zeroCells (Value.agg #[.int .u32 0, .int .i64 0, .bool false]).cells (C1.length + 1 + 1) ++ Builtin.zeroCells (Value.agg #[.int .u32 0, .int .i64 0, .bool false]).cells (G - (A.length + (C1.length + 1 + 1))) = (encsu A ++ Z).toArray ∧ Z.length = 3 * (G - A.length) := by
    refine ⟨(Builtin.zeroCells (Value.agg #[.int .u32 0, .int .i64 0, .bool false]).cells (C1.length + 1 + 1)).toList ++ (Builtin.zeroCells (Value.agg #[.int .u32 0, .int .i64 0, .bool false]).cells (G - (A.length + (C1.length + 1 + 1)))).toList, ?_, ?_⟩
    · apply Array.ext'
      simp only [Array.toList_append, List.append_assoc]
    · rw [List.length_append, zclu, zclu]
      omega
  rw [hG] at hrun0
  have hrun : ∀ ty, (Builtin.append_ #[43, 3] ty #[.slice (some ⟨b, 0, none⟩) A.length c, .int .i64 ((C1.length + 1 + 1 : Nat) : Int)]).run Try.prog w = .ok (.slice (some ⟨w.heap.size, 0, none⟩) (A.length + (C1.length + 1 + 1)) G) (w.drew.alloc (.cells (encsu A ++ Z).toArray 37)) := fun ty => by rw [hrun0 ty, ← hZ]
  clear hrun0 hZ hold hG
  obtain ⟨B1, B2, D, rfl, hB1, hB2⟩ : ∃ (B1 B2 D : List Value), Z = B1 ++ (B2 ++ D) ∧ B1.length = 3 ∧ B2.length = 3 * (C1.length + 1) := ⟨Z.take 3, (Z.drop 3).take (3 * (C1.length + 1)), (Z.drop 3).drop (3 * (C1.length + 1)), by rw [List.take_append_drop, List.take_append_drop], by rw [List.length_take]; omega, by rw [List.length_take, List.length_drop]; omega⟩
  obtain ⟨nb, hnb⟩ : ∃ nb, w.heap.size = nb := ⟨_, rfl⟩
  have hgn : gv ≠ nb := fun e => by have := blk_lt hv; omega
  have hcp1 : ∀ W : World, W.heap[nb]? = some (.cells (encsu A ++ B1 ++ (B2 ++ D)).toArray 37 (0, 0)) → W.heap[gv]? = some (.cells (encu x).toArray 37 (0, 0)) → ∀ ty dl dc, 1 ≤ dl → (Builtin.copy_ #[43, 43] ty #[.slice (some ⟨nb, A.length * 3, none⟩) dl dc, .slice (some ⟨gv, 0, none⟩) 1 1]).run Try.prog W =
      .ok (goInt 1) (W.setRow nb (encsu A ++ (encu x ++ (B2 ++ D))).toArray) := fun W hW hV ty dl dc hm => by
    rw [← List.append_assoc (encsu A)]
    exact run_copy_mid W 43 43 ty 37 nb (A.length * 3) dl dc ⟨gv, 0, none⟩ 1 1 (encu x) i Try.underlying43 hi 1 (by simp only [Nat.min_def]; split <;> omega) (by rw [hs]; rfl) (fun j u hj => vcellu hV j u hj) (fun v hv => List.all_eq_true.1 (encu_one x) v hv) 37 (encsu A) B1 (B2 ++ D)
      (by rw [hW]) (by rw [hB1]; rfl) (by rw [encsu_len]; omega)
  have hcp2 : ∀ W : World, Rowu W b (A ++ c0 :: C1) rest → W.heap[nb]? = some (.cells (encsu A ++ (encu x ++ (B2 ++ D))).toArray 37 (0, 0)) → ∀ ty dl dc sl sc, min sl dl = C1.length + 1 → (Builtin.copy_ #[43, 43] ty #[.slice (some ⟨nb, (A.length + 1) * 3, none⟩) dl dc, .slice (some ⟨b, A.length * 3, none⟩) sl sc]).run Try.prog W =
      .ok (goInt (C1.length + 1)) (W.setRow nb (encsu A ++ (encu x ++ (encsu (c0 :: C1) ++ D))).toArray) := fun W hR hW ty dl dc sl sc hm => by
    have h_ : (encsu A ++ (encu x ++ (encsu (c0 :: C1) ++ D))) = (encsu A ++ encu x) ++ encsu (c0 :: C1) ++ D := by simp only [List.append_assoc]
    rw [h_]
    exact run_copy_mid W 43 43 ty 37 nb ((A.length + 1) * 3) dl dc ⟨b, A.length * 3, none⟩ sl sc (encsu (c0 :: C1)) i Try.underlying43 hi (C1.length + 1) hm.symm (by rw [encsu_len, hs]; simp; omega) (fun j u hj => rowu_src hR A (c0 :: C1) [] (by simp) _ rfl j u hj) (encsu_one _) 37 (encsu A ++ encu x) B2 D
      (by rw [hW]; simp only [List.append_assoc]) (by rw [encsu_len, hB2]; simp) (by rw [List.length_append, encsu_len]; simp [encu]; omega)
  have hl2 : (encsu (A ++ x :: c0 :: C1) ++ D).length = G * 3 := by
    simp only [List.length_append, encsu_len, List.length_cons] at hZl ⊢
    omega
  have hfin : ∀ (W : World), Fr (fun k => k = b) w W → (∃ cs, W.heap[nb]? = some (.cells cs 37 (0, 0))) → Putu w b (A ++ x :: c0 :: C1) (.returned (.slice (some ⟨nb, 0, none⟩) (A.length + (C1.length + 1 + 1)) G)) (W.setRow nb (encsu A ++ (encu x ++ (encsu (c0 :: C1) ++ D))).toArray) := by
    rintro W hF ⟨cs, hcs⟩
    refine ⟨nb, G, D, ?_, ?_, hl2, by unfold maxLen at hG2; omega, .inr (by omega), hF.set nb _ (.inr (by omega))⟩
    · rw [show (A ++ x :: c0 :: C1).length = A.length + (C1.length + 1 + 1) by simp]
    · show _ = _
      rw [setRow_heap W nb _ _ _ _ hcs, encsu_app]
      simp [encsu]
  obtain ⟨W1, hW1⟩ : ∃ W1, w.drew.alloc (.cells (encsu A ++ (B1 ++ (B2 ++ D))).toArray 37) = W1 := ⟨_, rfl⟩
  have hN1 : W1.heap[nb]? = some (.cells (encsu A ++ B1 ++ (B2 ++ D)).toArray 37 (0, 0)) := by
    rw [← hW1, ← hnb, List.append_assoc]
    exact blk_new w.drew _
  have hF1 : Fr (fun k => k = b) w W1 := by
    rw [← hW1]
    exact (Fr.refl _ w).drew.alloc _
  have hV1 : W1.heap[gv]? = some (.cells (encu x).toArray 37 (0, 0)) := by
    rw [← hW1]
    exact blk_alloc (w := w.drew) hv _
  have hR1 : W1.heap[b]? = some (.cells (encsu (A ++ c0 :: C1) ++ rest).toArray 37 (0, 0)) := by
    rw [← hW1]
    exact blk_alloc (w := w.drew) hr _
  have hbn : b ≠ nb := fun e => by have := blk_lt hr; omega
  rw [hW1, hnb] at hrun
  have HRUN := Aside0.mk hrun
  have HF := Aside0.mk hfin
  have HC1 := Aside0.mk (hcp1 W1 hN1 hV1)
  have HC2 := Aside0.mk hcp2
  have hR2 := (setRow_ne W1 nb b (encsu A ++ (encu x ++ (B2 ++ D))).toArray hbn).trans hR1
  have hN2 := setRow_heap W1 nb _ (encsu A ++ (encu x ++ (B2 ++ D))).toArray _ _ hN1
  have hF2 : Fr (fun k => k = b) w (W1.setRow nb (encsu A ++ (encu x ++ (B2 ++ D))).toArray) := hF1.set nb _ (.inr (by omega))
  have H2 := Aside0.mk (And.intro hR2 (And.intro hN2 hF2))
  obtain ⟨p, hp⟩ : ∃ p, A.length = p := ⟨_, rfl⟩
  obtain ⟨q, hq⟩ : ∃ q, C1.length = q := ⟨_, rfl⟩
  rw [hp, hq] at hc hn HF HRUN HC2 hG1
  rw [hp] at HC1
  rw [hp, hq]
  clear hrun hfin hcp1 hcp2 hR2 hN2 hF2 hN1 hF1 hV1 hR1 hW1 hbn hl2 hgn hB1 hB2 hZl hi hz hs hby hv hr e0 hp hq
  subst hc
  have hb0 : (0 : Int) ≤ (p : Int) := by omega
  have hb1 : (p : Int) ≤ (p : Int) + (q : Int) + 1 := by omega
  have hb2 : ¬ ((p : Int) = (p : Int) + (q : Int) + 1) := by omega
  have hb4 : ¬ (p + q + 1 = p) := by omega
  have hw2 : (p : Int) + (q : Int) + 1 + 1 - (p : Int) = ((q + 1 + 1 : Nat) : Int) := by omega
  have hw3 : wrap64 ((p : Int) + (q : Int) + 1 + 1) = (p : Int) + (q : Int) + 1 + 1 := wrap64_id (by unfold I64; omega)
  have hbp : (p : Int) ≤ (p : Int) + (q : Int) + 1 := by omega
  have hbq : p ≤ p + q + 1 := by omega
  go_enter Try.func56, Try.ntmps56
  go_upto_region 10 with (first | ((with_reducible refine gate_dst (N := 40) rfl ?_); refine Lib.wpList_append_run _ rfl _ _ 43 3 rfl _ _ rfl rfl _ _ (HRUN.out _) ?_) | fail)
  have hGp : ¬ (G = p) := by omega
  have hGp1 : ¬ (G = p + 1) := by omega
  have hb5 : (p : Int) ≤ (p : Int) + ((q : Int) + 1 + 1) := by omega
  go_upto_region 11 with (first | ((with_reducible refine gate_dst (N := 45) rfl ?_); refine wpList_copy_runI _ rfl _ _ 43 43 rfl _ _ rfl rfl (HC1.out _ _ _ (by omega)) ?_) | fail)
  obtain ⟨hR2, hN2, hF2⟩ := H2.out
  clear H2 HC1 HRUN
  generalize W1.setRow nb (encsu A ++ (encu x ++ (B2 ++ D))).toArray = W2 at hR2 hN2 hF2 ⊢
  have hb7 : (p : Int) + 1 ≤ (p : Int) + ((q : Int) + 1 + 1) := by omega
  have hb8 : (0 : Int) ≤ (p : Int) + 1 := by omega
  have hw1 : IntKind.i64.wrap ((p : Int) + 1) = (p : Int) + 1 := by rw [IntKind.wrap_i64]; omega
  have htn : ((p : Int) + 1).toNat = p + 1 := by omega
  have hcp := HC2.out W2.drew hR2 hN2 3 (p + (q + 1 + 1) - (p + 1)) (G - (p + 1)) (p + q + 1 - p) (p + q + 1 - p) (by omega)
  have hq := Aside0.mk (HF.out W2.drew hF2.drew ⟨_, hN2⟩)
  clear HC2 HF hR2 hN2 hF2
  go_region_law (refine step_copy_runI rfl _ _ 43 43 rfl (.slice (some ⟨nb, (p + 1) * 3, none⟩) (p + (q + 1 + 1) - (p + 1)) (G - (p + 1))) (.slice (some ⟨b, p * 3, none⟩) (p + q + 1 - p) (p + q + 1 - p)) (by simp [Act.eval, Act.put]) (by simp [Act.eval, Act.put]) hcp ?_)
  go_wp2
  go_ret
  exact hq.out
end Go.Proofs.Ytbifanoiailjoaa.MRatePlays

/- A key is accepted. -/
namespace Go.Proofs.Ytbifanoiailjoaa.MRatePlays
open Go.RowKit Go.Proofs.YtbifanoiailjoaaW.PrintWords Go.Proofs.YtbifanoiailjoaaW.PrintLast Go.Proofs.YtbifanoiailjoaaW.PrintMore Go.Proofs.Ytbifanoiailjoaa.Base
set_option linter.unusedVariables false
set_option linter.unusedSimpArgs false

theorem insertu_c (W : World) (g b gv : Nat) (sl : Value) (es : List S37) (lo : Nat) (x : S37) (hs : Slu W g b sl es) (hlo : lo ≤ es.length) (hv : W.heap[gv]? = some (.cells (encu x).toArray 37 (0, 0))) (hne : gv ≠ b) (hn : es.length ≤ 1000000) :
    Calls Try.prog 56 #[sl, .int .i64 lo, .slice (some ⟨gv, 0, none⟩) 1 1] W fun e W' => ∃ b0, ((b0 = b ∧ b ≠ g) ∨ W.heap.size ≤ b0) ∧ Putu W b0 (es.take lo ++ x :: es.drop lo) e W' := by
  rcases Nat.lt_or_ge lo es.length with h | h
  · rcases hs with ⟨rfl, rfl, rfl⟩ | ⟨hbg, c, rest, rfl, hr, hl, hc⟩
    · simp at h
    obtain ⟨A, C1, c0, he, hA⟩ : ∃ A C1 c0, es = A ++ c0 :: C1 ∧ A.length = lo := ⟨es.take lo, es.drop (lo + 1), es[lo], by rw [← List.drop_eq_getElem_cons h, List.take_append_drop], by rw [List.length_take]; omega⟩
    subst he hA
    have e1 : (A ++ c0 :: C1).length = A.length + C1.length + 1 := by simp; omega
    rw [e1] at hn ⊢
    rw [List.take_left, List.drop_left]
    have hcl : A.length + C1.length + 1 ≤ c := by
      rw [List.length_append, encsu_len, e1] at hl
      omega
    rcases Nat.lt_or_ge (A.length + C1.length + 1) c with h1 | h1
    · exact (insmidu_room W c b gv A C1 c0 x rest hne hr hl h1 hc hv (by omega)).mono fun e W' h => ⟨b, .inl ⟨rfl, hbg⟩, h⟩
    · exact (insmidu_grow W c b gv A C1 c0 x rest hr (by omega) hv (by omega)).mono fun e W' h => ⟨b, .inl ⟨rfl, hbg⟩, h⟩
  · obtain rfl : lo = es.length := by omega
    rw [List.take_length, List.drop_length]
    rcases hs with ⟨rfl, rfl, rfl⟩ | ⟨hbg, c, rest, rfl, hr, hl, hc⟩
    · exact (insendu_grow W none 0 W.heap.size gv [] x [] (.inl ⟨rfl, rfl, rfl⟩) (by simp) hv).mono fun e W' h => ⟨_, .inr (Nat.le_refl _), h⟩
    · have hcl : es.length ≤ c := by
        rw [List.length_append, encsu_len] at hl
        omega
      rcases Nat.lt_or_ge es.length c with h1 | h1
      · exact (insendu_room W c b gv es x rest hr hl h1 hc hv).mono fun e W' h => ⟨b, .inl ⟨rfl, hbg⟩, h⟩
      · exact (insendu_grow W _ c b gv es x rest (.inr ⟨rfl, hr, by omega⟩) hn hv).mono fun e W' h => ⟨b, .inl ⟨rfl, hbg⟩, h⟩
def RWu (EA EC : List Value) (key : Int) (a : Int) (p : Bool) : Array Value := (EA ++ (([.int .u32 key, .int .i64 a, .bool p] : List Value) ++ EC)).toArray
theorem RWu_size (EA EC : List Value) (key : Int) (a : Int) (p : Bool) (lo j : Nat) (h : EA.length = lo * 3) (hj : j < 3) : lo * 3 + j + 1 ≤ (RWu EA EC key a p).size := by
  simp [RWu, h]
  omega
theorem rwau (EA EC : List Value) (key : Int) (a a' : Int) (p : Bool) (lo : Nat) (h : EA.length = lo * 3) : putl (RWu EA EC key a p) (lo * 3 + 1) [.int .i64 a'] = RWu EA EC key a' p := by
  have := putl_mid (EA ++ [.int .u32 key]) [.int .i64 a'] [.int .i64 a] ([.bool p] ++ EC) rfl
  rw [List.length_append, h, List.length_singleton] at this
  unfold RWu
  simpa using this
theorem rwbu (EA EC : List Value) (key : Int) (a : Int) (p p' : Bool) (lo : Nat) (h : EA.length = lo * 3) : putl (RWu EA EC key a p) (lo * 3 + 2) [.bool p'] = RWu EA EC key a p' := by
  have := putl_mid (EA ++ [.int .u32 key, .int .i64 a]) [.bool p'] [.bool p] EC rfl
  rw [List.length_append, h] at this
  unfold RWu
  simpa using this
theorem RWu_row (A C : List S37) (rest : List Value) (x : S37) : (encsu (A ++ x :: C) ++ rest).toArray = RWu (encsu A) (encsu C ++ rest) x.f0 x.f1 x.f2 := by
  simp [RWu, encsu, encu]
/-- The list then: the key's moment is told anew, or the key is put in. -/
def setAtu (es : List S37) (key : Int) (moment : Int) : List S37 := es.take (lowu es key) ++ ⟨key, moment, false⟩ :: es.drop (lowu es key + 1)
def putInu (es : List S37) (key : Int) (moment : Int) : List S37 := es.take (lowu es key) ++ ⟨key, moment, false⟩ :: es.drop (lowu es key)
def accu (es : List S37) (key : Int) (moment : Int) (room : Int) : List S37 :=
  if hasu es key = true then setAtu es key moment else putInu (cutu (es.length - (room - 1).toNat) es) key moment
theorem hasu_key (es : List S37) (key : Int) (h : hasu es key = true) : (rd_T37 es (lowu es key)).f0 = key := by
  rw [hasu_eq es key _ rfl] at h
  simp only [Bool.and_eq_true, decide_eq_true_eq] at h
  exact (cpu_zero _ _).1 h.2
theorem hasu_iff (es : List S37) (key : Int) (h : Riseu es) : hasu es key = true ↔ ∃ x ∈ es, x.f0 = key := by
  constructor
  · intro hh
    have hl := hasu_lt es key hh
    refine ⟨rd_T37 es (lowu es key), ?_, hasu_key es key hh⟩
    rw [rdu_get es _ hl]
    exact List.getElem_mem _
  · rintro ⟨x, hx, rfl⟩
    exact hasu_mem es h x hx
theorem cutu_has (n : Nat) (es : List S37) (key : Int) (h : Riseu es) (hh : hasu es key = false) : hasu (cutu n es) key = false := by
  cases q : hasu (cutu n es) key with
  | false => rfl
  | true =>
    obtain ⟨x, hx, hk⟩ := (hasu_iff _ key (cutu_rise n es h)).1 q
    rw [(hasu_iff es key h).2 ⟨x, (cutu_sub n es).subset hx, hk⟩] at hh
    cases hh
set_option maxHeartbeats 4000000 in
set_option maxRecDepth 100000 in
theorem acceptu_has (w : World) (g b : Nat) (es : List S37) (room span : Int) (key : Int) (moment : Int) (H : Tabu w g b es room span) (hS : Riseu es) (hn : es.length ≤ 1000000) (hr1 : 1 ≤ room) (hr2 : room ≤ 1024) (hh : hasu es key = true) :
    Calls Try.prog 37 #[.pointer (some ⟨g, 0, none⟩), .int .u32 key, .int .i64 moment] w fun e w' => e = .returned (.tuple #[]) ∧ ∃ b', Tabu w' g b' (accu es key moment room) room span ∧ (b' = b ∨ w.heap.size ≤ b') ∧ Fr (fun k => k = g ∨ k = b) w w' := by
  have hlt := hasu_lt es key hh
  have hkey := hasu_key es key hh
  have HP := Aside0.mk (fun W (hW : Tabu W g b es room span) => placeu_c W g b es room span key hW hS hn)
  rw [hh] at HP
  have ha : accu es key moment room = es.take (lowu es key) ++ ⟨key, moment, false⟩ :: es.drop (lowu es key + 1) := by unfold accu setAtu; rw [hh]; rfl
  have HT := Aside0.mk H
  have HF := Aside0.mk (Fr.refl (fun k => k = g ∨ k = b) w)
  obtain ⟨lo, hlo⟩ : ∃ lo, lowu es key = lo := ⟨_, rfl⟩
  rw [hlo] at hlt HP hkey ha
  have HA := Aside0.mk ha
  have HKEY := Aside0.mk hkey
  have HLT := Aside0.mk hlt
  clear hS hn ha hlo H hkey hlt
  go_enter Try.func37, Try.ntmps37
  go_upto_region 6 with (first | (go_at_call 38; refine (HP.out _ HT.out).mono ?_; rintro e_ w1 ⟨rfl, hb_⟩; have HT := Aside0.mk (HT.out.below hb_); have HF := Aside0.mk (HF.out.below hb_); clear hb_) | fail)
  obtain ⟨b1, hb1⟩ : ∃ b1, b = b1 := ⟨_, rfl⟩
  obtain ⟨n1, c1, EA, EC, y1, y2, K6_, HGB_, HEA_, hlt1, HEND_⟩ : ∃ (n1 c1 : Nat) (EA EC : List Value) (y1 : Int) (y2 : Bool), (w1.heap[g]? = some (.cells #[.slice (some ⟨b1, 0, none⟩) n1 c1, .int .i64 room, .int .i64 span] 77 (0, 0)) ∧ w1.heap[b1]? = some (.cells (RWu EA EC key y1 y2) 37 (0, 0)) ∧ Fr (fun k => k = g ∨ k = b) w w1) ∧ g ≠ b1 ∧ EA.length = lo * 3 ∧ (lo : Int) < (n1 : Int) ∧
      (∀ W : World, W.heap[g]? = some (.cells #[.slice (some ⟨b1, 0, none⟩) n1 c1, .int .i64 room, .int .i64 span] 77 (0, 0)) → W.heap[b1]? = some (.cells (RWu EA EC key moment false) 37 (0, 0)) → Fr (fun k => k = g ∨ k = b) w W → ∃ b', Tabu W g b' (accu es key moment room) room span ∧ (b' = b ∨ w.heap.size ≤ b') ∧ Fr (fun k => k = g ∨ k = b) w W) := by
    subst hb1
    have hlt := HLT.out
    obtain ⟨sl, hg, hs⟩ := HT.out
    rcases hs with ⟨rfl, rfl, rfl⟩ | ⟨hne, c1, rest, rfl, hr, hl, hc⟩
    · simp at hlt
    obtain ⟨A, hA⟩ : ∃ A, es.take lo = A := ⟨_, rfl⟩
    obtain ⟨C, hC⟩ : ∃ C, es.drop (lo + 1) = C := ⟨_, rfl⟩
    have hp := partu es lo hlt
    have hkey := HKEY.out
    have ha := HA.out
    obtain ⟨x, hx⟩ : ∃ x, rd_T37 es lo = x := ⟨_, rfl⟩
    rw [hx] at hkey hp
    obtain ⟨x0, y1, y2⟩ := x
    dsimp only at hkey
    have hkey' := hkey.symm
    subst hkey'
    have hAl : (encsu A).length = lo * 3 := by rw [encsu_len, ← hA, List.length_take]; omega
    rw [hA, hC, List.append_assoc, List.singleton_append] at hp
    rw [hA, hC] at ha
    obtain ⟨n1, hn1⟩ : ∃ n1, es.length = n1 := ⟨_, rfl⟩
    have hn2 : (A ++ (⟨key, moment, false⟩ : S37) :: C).length = n1 := by rw [← hn1, hp]; simp
    rw [hn1] at hg hlt
    rw [hp] at hr hl
    have hr' : w1.heap[b]? = some (.cells (RWu (encsu A) (encsu C ++ rest) key y1 y2) 37 (0, 0)) := by
      rw [show _ = _ from hr, RWu_row]
    refine ⟨n1, c1, _, _, y1, y2, ⟨hg, hr', HF.out⟩, hne.symm, hAl, by omega, fun W h1 h2 h3 => ⟨b, ⟨_, h1, .inr ⟨hne, c1, rest, ?_, ?_, ?_, hc⟩⟩, .inl rfl, h3⟩⟩
    · rw [ha, hn2]
    · rw [ha]
      show _ = _
      rw [h2, RWu_row]
    · rw [ha, ← hl]
      simp only [List.length_append, encsu_len, List.length_cons]
  have K6 := Aside0.mk K6_
  have HGB := Aside0.mk HGB_
  have HEA := Aside0.mk HEA_
  have HEND := Aside0.mk HEND_
  have HSB := Aside0.mk (show (b1 = g ∨ b1 = b) ∨ w.heap.size ≤ b1 from .inl (.inr hb1.symm))
  clear K6_ HGB_ HEA_ HEND_ hb1 HT HF HP HA HKEY HLT
  refine region_inv (T := ?T6) [some 45, some 46, some 47, some 48, some 49, some 50, some 51, some 52, some 53, some 54, some 55, some 56, some 57, none, some 58, some 59, none] ?hT6 (fun dn_ X w_ => w_.heap[g]? = some (.cells #[.slice (some ⟨b1, 0, none⟩) n1 c1, .int .i64 room, .int .i64 span] 77 (0, 0)) ∧ w_.heap[b1]? = some (.cells (RWu EA EC key (bif dn_ 13 then moment else y1) (bif dn_ 16 then false else y2)) 37 (0, 0)) ∧ Fr (fun k => k = g ∨ k = b) w w_ ∧ (dn_ 0 = true → X 0 = .pointer (some ⟨g, 0, none⟩)) ∧ (dn_ 1 = true → X 1 = .pointer (some ⟨g, 0, none⟩)) ∧ (dn_ 2 = true → X 2 = .pointer (some ⟨g, 0, none⟩)) ∧ (dn_ 3 = true → X 3 = .slice (some ⟨b1, 0, none⟩) n1 c1) ∧ (dn_ 4 = true → X 4 = .int .i64 lo) ∧ (dn_ 5 = true → X 5 = .pointer (some ⟨g, 0, none⟩)) ∧ (dn_ 6 = true → X 6 = .pointer (some ⟨g, 0, none⟩)) ∧ (dn_ 7 = true → X 7 = .pointer (some ⟨g, 0, none⟩)) ∧ (dn_ 8 = true → X 8 = .slice (some ⟨b1, 0, none⟩) n1 c1) ∧ (dn_ 9 = true → X 9 = .int .i64 lo) ∧ (dn_ 10 = true → X 10 = .int .i64 moment) ∧ (dn_ 11 = true → X 11 = .pointer (some ⟨b1, lo * 3, none⟩)) ∧ (dn_ 12 = true → X 12 = .pointer (some ⟨b1, lo * 3 + 1, none⟩)) ∧ (dn_ 13 = true → True) ∧ (dn_ 14 = true → X 14 = .pointer (some ⟨b1, lo * 3, none⟩)) ∧ (dn_ 15 = true → X 15 = .pointer (some ⟨b1, lo * 3 + 2, none⟩)) ∧ (dn_ 16 = true → True)) (by kernel_rfl) (by kernel_rfl) (by rfl) [0, 1, 2, 3, 4, 5, 6, 7, 8, 9, 10, 11, 12, 13, 14, 15, 16] rfl (.cons (some 45) rfl rfl (fun dn_ X w_ hd0_ hd_ hI_ K hK => ?_) (.cons (some 46) rfl rfl (fun dn_ X w_ hd0_ hd_ hI_ K hK => ?_) (.cons (some 47) rfl rfl (fun dn_ X w_ hd0_ hd_ hI_ K hK => ?_) (.cons (some 48) rfl rfl (fun dn_ X w_ hd0_ hd_ hI_ K hK => ?_) (.cons (some 49) rfl rfl (fun dn_ X w_ hd0_ hd_ hI_ K hK => ?_) (.cons (some 50) rfl rfl (fun dn_ X w_ hd0_ hd_ hI_ K hK => ?_) (.cons (some 51) rfl rfl (fun dn_ X w_ hd0_ hd_ hI_ K hK => ?_) (.cons (some 52) rfl rfl (fun dn_ X w_ hd0_ hd_ hI_ K hK => ?_) (.cons (some 53) rfl rfl (fun dn_ X w_ hd0_ hd_ hI_ K hK => ?_) (.cons (some 54) rfl rfl (fun dn_ X w_ hd0_ hd_ hI_ K hK => ?_) (.cons (some 55) rfl rfl (fun dn_ X w_ hd0_ hd_ hI_ K hK => ?_) (.cons (some 56) rfl rfl (fun dn_ X w_ hd0_ hd_ hI_ K hK => ?_) (.cons (some 57) rfl rfl (fun dn_ X w_ hd0_ hd_ hI_ K hK => ?_) (.cons none rfl rfl (fun dn_ X w_ hd0_ hd_ hI_ K hK => ?_) (.cons (some 58) rfl rfl (fun dn_ X w_ hd0_ hd_ hI_ K hK => ?_) (.cons (some 59) rfl rfl (fun dn_ X w_ hd0_ hd_ hI_ K hK => ?_) (.cons none rfl rfl (fun dn_ X w_ hd0_ hd_ hI_ K hK => ?_) .nil))))))))))))))))) ?h06 ?hend6
  case hT6 =>
    intro X
    simp only [fill, Act.put, List.setIfInBounds_toArray, List.set_cons_zero, List.set_cons_succ, Nat.zero_add, Nat.reduceAdd]
    rfl
  case h06 =>
    exact ⟨K6.out.1, K6.out.2.1, K6.out.2.2.drew, (fun h => by cases h), (fun h => by cases h), (fun h => by cases h), (fun h => by cases h), (fun h => by cases h), (fun h => by cases h), (fun h => by cases h), (fun h => by cases h), (fun h => by cases h), (fun h => by cases h), (fun h => by cases h), (fun h => by cases h), (fun h => by cases h), (fun h => by cases h), (fun h => by cases h), (fun h => by cases h), (fun h => by cases h)⟩
  · -- 0
    refine val_ (w1 := w_) (v := .pointer (some ⟨g, 0, none⟩)) (by rfl) rfl ?_ (hK.out _ _ _ rfl ⟨hI_.1, hI_.2.1, hI_.2.2.1, (fun _ => rfl), hI_.2.2.2.2.1, hI_.2.2.2.2.2.1, hI_.2.2.2.2.2.2.1, hI_.2.2.2.2.2.2.2.1, hI_.2.2.2.2.2.2.2.2.1, hI_.2.2.2.2.2.2.2.2.2.1, hI_.2.2.2.2.2.2.2.2.2.2.1, hI_.2.2.2.2.2.2.2.2.2.2.2.1, hI_.2.2.2.2.2.2.2.2.2.2.2.2.1, hI_.2.2.2.2.2.2.2.2.2.2.2.2.2.1, hI_.2.2.2.2.2.2.2.2.2.2.2.2.2.2.1, hI_.2.2.2.2.2.2.2.2.2.2.2.2.2.2.2.1, hI_.2.2.2.2.2.2.2.2.2.2.2.2.2.2.2.2.1, hI_.2.2.2.2.2.2.2.2.2.2.2.2.2.2.2.2.2.1, hI_.2.2.2.2.2.2.2.2.2.2.2.2.2.2.2.2.2.2.1, hI_.2.2.2.2.2.2.2.2.2.2.2.2.2.2.2.2.2.2.2⟩)
    go_simp
    all_goals (first | decide | rfl)
  · -- 1
    have e0 := hI_.2.2.2.1 (hd_ 1 0 (by kernel_rfl))
    refine val_ (w1 := w_) (v := .pointer (some ⟨g, 0, none⟩)) (by rfl) rfl ?_ (hK.out _ _ _ rfl ⟨hI_.1, hI_.2.1, hI_.2.2.1, hI_.2.2.2.1, (fun _ => rfl), hI_.2.2.2.2.2.1, hI_.2.2.2.2.2.2.1, hI_.2.2.2.2.2.2.2.1, hI_.2.2.2.2.2.2.2.2.1, hI_.2.2.2.2.2.2.2.2.2.1, hI_.2.2.2.2.2.2.2.2.2.2.1, hI_.2.2.2.2.2.2.2.2.2.2.2.1, hI_.2.2.2.2.2.2.2.2.2.2.2.2.1, hI_.2.2.2.2.2.2.2.2.2.2.2.2.2.1, hI_.2.2.2.2.2.2.2.2.2.2.2.2.2.2.1, hI_.2.2.2.2.2.2.2.2.2.2.2.2.2.2.2.1, hI_.2.2.2.2.2.2.2.2.2.2.2.2.2.2.2.2.1, hI_.2.2.2.2.2.2.2.2.2.2.2.2.2.2.2.2.2.1, hI_.2.2.2.2.2.2.2.2.2.2.2.2.2.2.2.2.2.2.1, hI_.2.2.2.2.2.2.2.2.2.2.2.2.2.2.2.2.2.2.2⟩)
    go_simp
    all_goals (first | decide | rfl)
  · -- 2
    have e1 := hI_.2.2.2.2.1 (hd_ 1 1 (by kernel_rfl))
    refine val_ (w1 := w_) (v := .pointer (some ⟨g, 0, none⟩)) (by rfl) rfl ?_ (hK.out _ _ _ rfl ⟨hI_.1, hI_.2.1, hI_.2.2.1, hI_.2.2.2.1, hI_.2.2.2.2.1, (fun _ => rfl), hI_.2.2.2.2.2.2.1, hI_.2.2.2.2.2.2.2.1, hI_.2.2.2.2.2.2.2.2.1, hI_.2.2.2.2.2.2.2.2.2.1, hI_.2.2.2.2.2.2.2.2.2.2.1, hI_.2.2.2.2.2.2.2.2.2.2.2.1, hI_.2.2.2.2.2.2.2.2.2.2.2.2.1, hI_.2.2.2.2.2.2.2.2.2.2.2.2.2.1, hI_.2.2.2.2.2.2.2.2.2.2.2.2.2.2.1, hI_.2.2.2.2.2.2.2.2.2.2.2.2.2.2.2.1, hI_.2.2.2.2.2.2.2.2.2.2.2.2.2.2.2.2.1, hI_.2.2.2.2.2.2.2.2.2.2.2.2.2.2.2.2.2.1, hI_.2.2.2.2.2.2.2.2.2.2.2.2.2.2.2.2.2.2.1, hI_.2.2.2.2.2.2.2.2.2.2.2.2.2.2.2.2.2.2.2⟩)
    go_simp
    all_goals (first | decide | rfl)
  · -- 3
    have wG := hI_.1
    have e2 := hI_.2.2.2.2.2.1 (hd_ 1 2 (by kernel_rfl))
    have z0_ := (blk_cell wG 0).trans (show (#[.slice (some ⟨b1, 0, none⟩) n1 c1, .int .i64 room, .int .i64 span] : Array Value)[0]? = some (.slice (some ⟨b1, 0, none⟩) n1 c1) from rfl)
    refine val_ (w1 := w_) (v := .slice (some ⟨b1, 0, none⟩) n1 c1) (by rfl) rfl ?_ (hK.out _ _ _ rfl ⟨hI_.1, hI_.2.1, hI_.2.2.1, hI_.2.2.2.1, hI_.2.2.2.2.1, hI_.2.2.2.2.2.1, (fun _ => rfl), hI_.2.2.2.2.2.2.2.1, hI_.2.2.2.2.2.2.2.2.1, hI_.2.2.2.2.2.2.2.2.2.1, hI_.2.2.2.2.2.2.2.2.2.2.1, hI_.2.2.2.2.2.2.2.2.2.2.2.1, hI_.2.2.2.2.2.2.2.2.2.2.2.2.1, hI_.2.2.2.2.2.2.2.2.2.2.2.2.2.1, hI_.2.2.2.2.2.2.2.2.2.2.2.2.2.2.1, hI_.2.2.2.2.2.2.2.2.2.2.2.2.2.2.2.1, hI_.2.2.2.2.2.2.2.2.2.2.2.2.2.2.2.2.1, hI_.2.2.2.2.2.2.2.2.2.2.2.2.2.2.2.2.2.1, hI_.2.2.2.2.2.2.2.2.2.2.2.2.2.2.2.2.2.2.1, hI_.2.2.2.2.2.2.2.2.2.2.2.2.2.2.2.2.2.2.2⟩)
    go_simp
    all_goals (first | decide | rfl)
  · -- 4
    refine val_ (w1 := w_) (v := .int .i64 lo) (by rfl) rfl ?_ (hK.out _ _ _ rfl ⟨hI_.1, hI_.2.1, hI_.2.2.1, hI_.2.2.2.1, hI_.2.2.2.2.1, hI_.2.2.2.2.2.1, hI_.2.2.2.2.2.2.1, (fun _ => rfl), hI_.2.2.2.2.2.2.2.2.1, hI_.2.2.2.2.2.2.2.2.2.1, hI_.2.2.2.2.2.2.2.2.2.2.1, hI_.2.2.2.2.2.2.2.2.2.2.2.1, hI_.2.2.2.2.2.2.2.2.2.2.2.2.1, hI_.2.2.2.2.2.2.2.2.2.2.2.2.2.1, hI_.2.2.2.2.2.2.2.2.2.2.2.2.2.2.1, hI_.2.2.2.2.2.2.2.2.2.2.2.2.2.2.2.1, hI_.2.2.2.2.2.2.2.2.2.2.2.2.2.2.2.2.1, hI_.2.2.2.2.2.2.2.2.2.2.2.2.2.2.2.2.2.1, hI_.2.2.2.2.2.2.2.2.2.2.2.2.2.2.2.2.2.2.1, hI_.2.2.2.2.2.2.2.2.2.2.2.2.2.2.2.2.2.2.2⟩)
    go_simp
    all_goals (first | decide | rfl)
  · -- 5
    refine val_ (w1 := w_) (v := .pointer (some ⟨g, 0, none⟩)) (by rfl) rfl ?_ (hK.out _ _ _ rfl ⟨hI_.1, hI_.2.1, hI_.2.2.1, hI_.2.2.2.1, hI_.2.2.2.2.1, hI_.2.2.2.2.2.1, hI_.2.2.2.2.2.2.1, hI_.2.2.2.2.2.2.2.1, (fun _ => rfl), hI_.2.2.2.2.2.2.2.2.2.1, hI_.2.2.2.2.2.2.2.2.2.2.1, hI_.2.2.2.2.2.2.2.2.2.2.2.1, hI_.2.2.2.2.2.2.2.2.2.2.2.2.1, hI_.2.2.2.2.2.2.2.2.2.2.2.2.2.1, hI_.2.2.2.2.2.2.2.2.2.2.2.2.2.2.1, hI_.2.2.2.2.2.2.2.2.2.2.2.2.2.2.2.1, hI_.2.2.2.2.2.2.2.2.2.2.2.2.2.2.2.2.1, hI_.2.2.2.2.2.2.2.2.2.2.2.2.2.2.2.2.2.1, hI_.2.2.2.2.2.2.2.2.2.2.2.2.2.2.2.2.2.2.1, hI_.2.2.2.2.2.2.2.2.2.2.2.2.2.2.2.2.2.2.2⟩)
    go_simp
    all_goals (first | decide | rfl)
  · -- 6
    have e5 := hI_.2.2.2.2.2.2.2.2.1 (hd_ 1 5 (by kernel_rfl))
    refine val_ (w1 := w_) (v := .pointer (some ⟨g, 0, none⟩)) (by rfl) rfl ?_ (hK.out _ _ _ rfl ⟨hI_.1, hI_.2.1, hI_.2.2.1, hI_.2.2.2.1, hI_.2.2.2.2.1, hI_.2.2.2.2.2.1, hI_.2.2.2.2.2.2.1, hI_.2.2.2.2.2.2.2.1, hI_.2.2.2.2.2.2.2.2.1, (fun _ => rfl), hI_.2.2.2.2.2.2.2.2.2.2.1, hI_.2.2.2.2.2.2.2.2.2.2.2.1, hI_.2.2.2.2.2.2.2.2.2.2.2.2.1, hI_.2.2.2.2.2.2.2.2.2.2.2.2.2.1, hI_.2.2.2.2.2.2.2.2.2.2.2.2.2.2.1, hI_.2.2.2.2.2.2.2.2.2.2.2.2.2.2.2.1, hI_.2.2.2.2.2.2.2.2.2.2.2.2.2.2.2.2.1, hI_.2.2.2.2.2.2.2.2.2.2.2.2.2.2.2.2.2.1, hI_.2.2.2.2.2.2.2.2.2.2.2.2.2.2.2.2.2.2.1, hI_.2.2.2.2.2.2.2.2.2.2.2.2.2.2.2.2.2.2.2⟩)
    go_simp
    all_goals (first | decide | rfl)
  · -- 7
    have e6 := hI_.2.2.2.2.2.2.2.2.2.1 (hd_ 1 6 (by kernel_rfl))
    refine val_ (w1 := w_) (v := .pointer (some ⟨g, 0, none⟩)) (by rfl) rfl ?_ (hK.out _ _ _ rfl ⟨hI_.1, hI_.2.1, hI_.2.2.1, hI_.2.2.2.1, hI_.2.2.2.2.1, hI_.2.2.2.2.2.1, hI_.2.2.2.2.2.2.1, hI_.2.2.2.2.2.2.2.1, hI_.2.2.2.2.2.2.2.2.1, hI_.2.2.2.2.2.2.2.2.2.1, (fun _ => rfl), hI_.2.2.2.2.2.2.2.2.2.2.2.1, hI_.2.2.2.2.2.2.2.2.2.2.2.2.1, hI_.2.2.2.2.2.2.2.2.2.2.2.2.2.1, hI_.2.2.2.2.2.2.2.2.2.2.2.2.2.2.1, hI_.2.2.2.2.2.2.2.2.2.2.2.2.2.2.2.1, hI_.2.2.2.2.2.2.2.2.2.2.2.2.2.2.2.2.1, hI_.2.2.2.2.2.2.2.2.2.2.2.2.2.2.2.2.2.1, hI_.2.2.2.2.2.2.2.2.2.2.2.2.2.2.2.2.2.2.1, hI_.2.2.2.2.2.2.2.2.2.2.2.2.2.2.2.2.2.2.2⟩)
    go_simp
    all_goals (first | decide | rfl)
  · -- 8
    have wG := hI_.1
    have e7 := hI_.2.2.2.2.2.2.2.2.2.2.1 (hd_ 1 7 (by kernel_rfl))
    have z0_ := (blk_cell wG 0).trans (show (#[.slice (some ⟨b1, 0, none⟩) n1 c1, .int .i64 room, .int .i64 span] : Array Value)[0]? = some (.slice (some ⟨b1, 0, none⟩) n1 c1) from rfl)
    refine val_ (w1 := w_) (v := .slice (some ⟨b1, 0, none⟩) n1 c1) (by rfl) rfl ?_ (hK.out _ _ _ rfl ⟨hI_.1, hI_.2.1, hI_.2.2.1, hI_.2.2.2.1, hI_.2.2.2.2.1, hI_.2.2.2.2.2.1, hI_.2.2.2.2.2.2.1, hI_.2.2.2.2.2.2.2.1, hI_.2.2.2.2.2.2.2.2.1, hI_.2.2.2.2.2.2.2.2.2.1, hI_.2.2.2.2.2.2.2.2.2.2.1, (fun _ => rfl), hI_.2.2.2.2.2.2.2.2.2.2.2.2.1, hI_.2.2.2.2.2.2.2.2.2.2.2.2.2.1, hI_.2.2.2.2.2.2.2.2.2.2.2.2.2.2.1, hI_.2.2.2.2.2.2.2.2.2.2.2.2.2.2.2.1, hI_.2.2.2.2.2.2.2.2.2.2.2.2.2.2.2.2.1, hI_.2.2.2.2.2.2.2.2.2.2.2.2.2.2.2.2.2.1, hI_.2.2.2.2.2.2.2.2.2.2.2.2.2.2.2.2.2.2.1, hI_.2.2.2.2.2.2.2.2.2.2.2.2.2.2.2.2.2.2.2⟩)
    go_simp
    all_goals (first | decide | rfl)
  · -- 9
    refine val_ (w1 := w_) (v := .int .i64 lo) (by rfl) rfl ?_ (hK.out _ _ _ rfl ⟨hI_.1, hI_.2.1, hI_.2.2.1, hI_.2.2.2.1, hI_.2.2.2.2.1, hI_.2.2.2.2.2.1, hI_.2.2.2.2.2.2.1, hI_.2.2.2.2.2.2.2.1, hI_.2.2.2.2.2.2.2.2.1, hI_.2.2.2.2.2.2.2.2.2.1, hI_.2.2.2.2.2.2.2.2.2.2.1, hI_.2.2.2.2.2.2.2.2.2.2.2.1, (fun _ => rfl), hI_.2.2.2.2.2.2.2.2.2.2.2.2.2.1, hI_.2.2.2.2.2.2.2.2.2.2.2.2.2.2.1, hI_.2.2.2.2.2.2.2.2.2.2.2.2.2.2.2.1, hI_.2.2.2.2.2.2.2.2.2.2.2.2.2.2.2.2.1, hI_.2.2.2.2.2.2.2.2.2.2.2.2.2.2.2.2.2.1, hI_.2.2.2.2.2.2.2.2.2.2.2.2.2.2.2.2.2.2.1, hI_.2.2.2.2.2.2.2.2.2.2.2.2.2.2.2.2.2.2.2⟩)
    go_simp
    all_goals (first | decide | rfl)
  · -- 10
    refine val_ (w1 := w_) (v := .int .i64 moment) (by rfl) rfl ?_ (hK.out _ _ _ rfl ⟨hI_.1, hI_.2.1, hI_.2.2.1, hI_.2.2.2.1, hI_.2.2.2.2.1, hI_.2.2.2.2.2.1, hI_.2.2.2.2.2.2.1, hI_.2.2.2.2.2.2.2.1, hI_.2.2.2.2.2.2.2.2.1, hI_.2.2.2.2.2.2.2.2.2.1, hI_.2.2.2.2.2.2.2.2.2.2.1, hI_.2.2.2.2.2.2.2.2.2.2.2.1, hI_.2.2.2.2.2.2.2.2.2.2.2.2.1, (fun _ => rfl), hI_.2.2.2.2.2.2.2.2.2.2.2.2.2.2.1, hI_.2.2.2.2.2.2.2.2.2.2.2.2.2.2.2.1, hI_.2.2.2.2.2.2.2.2.2.2.2.2.2.2.2.2.1, hI_.2.2.2.2.2.2.2.2.2.2.2.2.2.2.2.2.2.1, hI_.2.2.2.2.2.2.2.2.2.2.2.2.2.2.2.2.2.2.1, hI_.2.2.2.2.2.2.2.2.2.2.2.2.2.2.2.2.2.2.2⟩)
    go_simp
    all_goals (first | decide | rfl)
  · -- 11
    have e3 := hI_.2.2.2.2.2.2.1 (hd_ 1 3 (by kernel_rfl))
    have e4 := hI_.2.2.2.2.2.2.2.1 (hd_ 1 4 (by kernel_rfl))
    refine val_ (w1 := w_) (v := .pointer (some ⟨b1, lo * 3, none⟩)) (by rfl) rfl ?_ (hK.out _ _ _ rfl ⟨hI_.1, hI_.2.1, hI_.2.2.1, hI_.2.2.2.1, hI_.2.2.2.2.1, hI_.2.2.2.2.2.1, hI_.2.2.2.2.2.2.1, hI_.2.2.2.2.2.2.2.1, hI_.2.2.2.2.2.2.2.2.1, hI_.2.2.2.2.2.2.2.2.2.1, hI_.2.2.2.2.2.2.2.2.2.2.1, hI_.2.2.2.2.2.2.2.2.2.2.2.1, hI_.2.2.2.2.2.2.2.2.2.2.2.2.1, hI_.2.2.2.2.2.2.2.2.2.2.2.2.2.1, (fun _ => rfl), hI_.2.2.2.2.2.2.2.2.2.2.2.2.2.2.2.1, hI_.2.2.2.2.2.2.2.2.2.2.2.2.2.2.2.2.1, hI_.2.2.2.2.2.2.2.2.2.2.2.2.2.2.2.2.2.1, hI_.2.2.2.2.2.2.2.2.2.2.2.2.2.2.2.2.2.2.1, hI_.2.2.2.2.2.2.2.2.2.2.2.2.2.2.2.2.2.2.2⟩)
    go_simp
    all_goals (first | decide | rfl)
  · -- 12
    have e11 := hI_.2.2.2.2.2.2.2.2.2.2.2.2.2.2.1 (hd_ 1 11 (by kernel_rfl))
    refine val_ (w1 := w_) (v := .pointer (some ⟨b1, lo * 3 + 1, none⟩)) (by rfl) rfl ?_ (hK.out _ _ _ rfl ⟨hI_.1, hI_.2.1, hI_.2.2.1, hI_.2.2.2.1, hI_.2.2.2.2.1, hI_.2.2.2.2.2.1, hI_.2.2.2.2.2.2.1, hI_.2.2.2.2.2.2.2.1, hI_.2.2.2.2.2.2.2.2.1, hI_.2.2.2.2.2.2.2.2.2.1, hI_.2.2.2.2.2.2.2.2.2.2.1, hI_.2.2.2.2.2.2.2.2.2.2.2.1, hI_.2.2.2.2.2.2.2.2.2.2.2.2.1, hI_.2.2.2.2.2.2.2.2.2.2.2.2.2.1, hI_.2.2.2.2.2.2.2.2.2.2.2.2.2.2.1, (fun _ => rfl), hI_.2.2.2.2.2.2.2.2.2.2.2.2.2.2.2.2.1, hI_.2.2.2.2.2.2.2.2.2.2.2.2.2.2.2.2.2.1, hI_.2.2.2.2.2.2.2.2.2.2.2.2.2.2.2.2.2.2.1, hI_.2.2.2.2.2.2.2.2.2.2.2.2.2.2.2.2.2.2.2⟩)
    go_simp
    all_goals (first | decide | rfl)
  · -- 13
    have wG := hI_.1
    have wB := hI_.2.1
    have wF := hI_.2.2.1
    have h0 := hI_.2.2.2.1
    have h1 := hI_.2.2.2.2.1
    have h2 := hI_.2.2.2.2.2.1
    have h3 := hI_.2.2.2.2.2.2.1
    have h4 := hI_.2.2.2.2.2.2.2.1
    have h5 := hI_.2.2.2.2.2.2.2.2.1
    have h6 := hI_.2.2.2.2.2.2.2.2.2.1
    have h7 := hI_.2.2.2.2.2.2.2.2.2.2.1
    have h8 := hI_.2.2.2.2.2.2.2.2.2.2.2.1
    have h9 := hI_.2.2.2.2.2.2.2.2.2.2.2.2.1
    have h10 := hI_.2.2.2.2.2.2.2.2.2.2.2.2.2.1
    have h11 := hI_.2.2.2.2.2.2.2.2.2.2.2.2.2.2.1
    have h12 := hI_.2.2.2.2.2.2.2.2.2.2.2.2.2.2.2.1
    have h13 := hI_.2.2.2.2.2.2.2.2.2.2.2.2.2.2.2.2.1
    have h14 := hI_.2.2.2.2.2.2.2.2.2.2.2.2.2.2.2.2.2.1
    have h15 := hI_.2.2.2.2.2.2.2.2.2.2.2.2.2.2.2.2.2.2.1
    have h16 := hI_.2.2.2.2.2.2.2.2.2.2.2.2.2.2.2.2.2.2.2
    have e10 := h10 (hd_ 1 10 (by kernel_rfl))
    have e12 := h12 (hd_ 1 12 (by kernel_rfl))
    have wB0 : w_.heap[b1]? = some (.cells (RWu EA EC key y1 (bif dn_ 16 then false else y2)) 37 (0, 0)) := by rw [hd0_] at wB; exact wB
    rw [if_pos (by rfl)]
    refine wp_store_part 2 _ _ rfl b1 (lo * 3 + 1) (.int .i64 moment) [.int .i64 moment] ?_ ?_ rfl (by simp [Value.oneCell']) 37 _ (RWu EA EC key moment (bif dn_ 16 then false else y2)) wB0 (RWu_size _ _ _ _ _ lo 1 HEA.out (by decide)) (by kernel_rfl) (rwau _ _ _ _ _ _ lo HEA.out) ?_
    · exact e12
    · exact e10
    · exact hK.out _ undef _ rfl ⟨((setRow_ne _ _ _ _ HGB.out).trans wG), (setRow_heap _ b1 _ _ _ _ wB0), (wF.set b1 _ HSB.out), h0, h1, h2, h3, h4, h5, h6, h7, h8, h9, h10, h11, h12, (fun _ => trivial), h14, h15, h16⟩
  · -- 14
    have e8 := hI_.2.2.2.2.2.2.2.2.2.2.2.1 (hd_ 1 8 (by kernel_rfl))
    have e9 := hI_.2.2.2.2.2.2.2.2.2.2.2.2.1 (hd_ 1 9 (by kernel_rfl))
    refine val_ (w1 := w_) (v := .pointer (some ⟨b1, lo * 3, none⟩)) (by rfl) rfl ?_ (hK.out _ _ _ rfl ⟨hI_.1, hI_.2.1, hI_.2.2.1, hI_.2.2.2.1, hI_.2.2.2.2.1, hI_.2.2.2.2.2.1, hI_.2.2.2.2.2.2.1, hI_.2.2.2.2.2.2.2.1, hI_.2.2.2.2.2.2.2.2.1, hI_.2.2.2.2.2.2.2.2.2.1, hI_.2.2.2.2.2.2.2.2.2.2.1, hI_.2.2.2.2.2.2.2.2.2.2.2.1, hI_.2.2.2.2.2.2.2.2.2.2.2.2.1, hI_.2.2.2.2.2.2.2.2.2.2.2.2.2.1, hI_.2.2.2.2.2.2.2.2.2.2.2.2.2.2.1, hI_.2.2.2.2.2.2.2.2.2.2.2.2.2.2.2.1, hI_.2.2.2.2.2.2.2.2.2.2.2.2.2.2.2.2.1, (fun _ => rfl), hI_.2.2.2.2.2.2.2.2.2.2.2.2.2.2.2.2.2.2.1, hI_.2.2.2.2.2.2.2.2.2.2.2.2.2.2.2.2.2.2.2⟩)
    go_simp
    all_goals (first | decide | rfl)
  · -- 15
    have e14 := hI_.2.2.2.2.2.2.2.2.2.2.2.2.2.2.2.2.2.1 (hd_ 1 14 (by kernel_rfl))
    refine val_ (w1 := w_) (v := .pointer (some ⟨b1, lo * 3 + 2, none⟩)) (by rfl) rfl ?_ (hK.out _ _ _ rfl ⟨hI_.1, hI_.2.1, hI_.2.2.1, hI_.2.2.2.1, hI_.2.2.2.2.1, hI_.2.2.2.2.2.1, hI_.2.2.2.2.2.2.1, hI_.2.2.2.2.2.2.2.1, hI_.2.2.2.2.2.2.2.2.1, hI_.2.2.2.2.2.2.2.2.2.1, hI_.2.2.2.2.2.2.2.2.2.2.1, hI_.2.2.2.2.2.2.2.2.2.2.2.1, hI_.2.2.2.2.2.2.2.2.2.2.2.2.1, hI_.2.2.2.2.2.2.2.2.2.2.2.2.2.1, hI_.2.2.2.2.2.2.2.2.2.2.2.2.2.2.1, hI_.2.2.2.2.2.2.2.2.2.2.2.2.2.2.2.1, hI_.2.2.2.2.2.2.2.2.2.2.2.2.2.2.2.2.1, hI_.2.2.2.2.2.2.2.2.2.2.2.2.2.2.2.2.2.1, (fun _ => rfl), hI_.2.2.2.2.2.2.2.2.2.2.2.2.2.2.2.2.2.2.2⟩)
    go_simp
    all_goals (first | decide | rfl)
  · -- 16
    have wG := hI_.1
    have wB := hI_.2.1
    have wF := hI_.2.2.1
    have h0 := hI_.2.2.2.1
    have h1 := hI_.2.2.2.2.1
    have h2 := hI_.2.2.2.2.2.1
    have h3 := hI_.2.2.2.2.2.2.1
    have h4 := hI_.2.2.2.2.2.2.2.1
    have h5 := hI_.2.2.2.2.2.2.2.2.1
    have h6 := hI_.2.2.2.2.2.2.2.2.2.1
    have h7 := hI_.2.2.2.2.2.2.2.2.2.2.1
    have h8 := hI_.2.2.2.2.2.2.2.2.2.2.2.1
    have h9 := hI_.2.2.2.2.2.2.2.2.2.2.2.2.1
    have h10 := hI_.2.2.2.2.2.2.2.2.2.2.2.2.2.1
    have h11 := hI_.2.2.2.2.2.2.2.2.2.2.2.2.2.2.1
    have h12 := hI_.2.2.2.2.2.2.2.2.2.2.2.2.2.2.2.1
    have h13 := hI_.2.2.2.2.2.2.2.2.2.2.2.2.2.2.2.2.1
    have h14 := hI_.2.2.2.2.2.2.2.2.2.2.2.2.2.2.2.2.2.1
    have h15 := hI_.2.2.2.2.2.2.2.2.2.2.2.2.2.2.2.2.2.2.1
    have h16 := hI_.2.2.2.2.2.2.2.2.2.2.2.2.2.2.2.2.2.2.2
    have e15 := h15 (hd_ 1 15 (by kernel_rfl))
    have wB0 : w_.heap[b1]? = some (.cells (RWu EA EC key (bif dn_ 13 then moment else y1) y2) 37 (0, 0)) := by rw [hd0_] at wB; exact wB
    rw [if_pos (by rfl)]
    refine wp_store_part 4 _ _ rfl b1 (lo * 3 + 2) (.bool false) [.bool false] ?_ ?_ rfl (by simp [Value.oneCell']) 37 _ (RWu EA EC key (bif dn_ 13 then moment else y1) false) wB0 (RWu_size _ _ _ _ _ lo 2 HEA.out (by decide)) (by kernel_rfl) (rwbu _ _ _ _ _ _ lo HEA.out) ?_
    · exact e15
    · rfl
    · exact hK.out _ undef _ rfl ⟨((setRow_ne _ _ _ _ HGB.out).trans wG), (setRow_heap _ b1 _ _ _ _ wB0), (wF.set b1 _ HSB.out), h0, h1, h2, h3, h4, h5, h6, h7, h8, h9, h10, h11, h12, h13, h14, h15, (fun _ => trivial)⟩
  intro dn_ X w9 hdn_ hI_
  obtain ⟨wG, wB, wF, h0, h1, h2, h3, h4, h5, h6, h7, h8, h9, h10, h11, h12, h13, h14, h15, h16⟩ := hI_
  rw [hdn_ 13 (by decide), hdn_ 16 (by decide)] at wB
  have K9 := Aside0.mk (And.intro wG (And.intro (show w9.heap[b1]? = some (.cells (RWu EA EC key moment false) 37 (0, 0)) from wB) wF))
  clear wG wB wF h0 h1 h2 h3 h4 h5 h6 h7 h8 h9 h10 h11 h12 h13 h14 h15 h16 hdn_
  go_wp2
  go_end0
  exact ⟨rfl, HEND.out _ K9.out.1 K9.out.2.1 K9.out.2.2⟩
set_option maxHeartbeats 4000000 in
set_option maxRecDepth 100000 in
theorem acceptu_new (w : World) (g b : Nat) (es : List S37) (room span : Int) (key : Int) (moment : Int) (H : Tabu w g b es room span) (hS : Riseu es) (hn : es.length ≤ 1000000) (hr1 : 1 ≤ room) (hr2 : room ≤ 1024) (hh : hasu es key = false) :
    Calls Try.prog 37 #[.pointer (some ⟨g, 0, none⟩), .int .u32 key, .int .i64 moment] w fun e w' => e = .returned (.tuple #[]) ∧ ∃ b', Tabu w' g b' (accu es key moment room) room span ∧ (b' = b ∨ w.heap.size ≤ b') ∧ Fr (fun k => k = g ∨ k = b) w w' := by
  have HP := Aside0.mk (fun W (hW : Tabu W g b es room span) => placeu_c W g b es room span key hW hS hn)
  rw [hh] at HP
  obtain ⟨m, hm⟩ : ∃ m : Nat, (room - 1).toNat = m := ⟨_, rfl⟩
  obtain ⟨es1, he1⟩ : ∃ es1, cutu (es.length - m) es = es1 := ⟨_, rfl⟩
  have HTR := Aside0.mk (fun W (hW : Tabu W g b es room span) => trimu_c W g b es room span m hW hS hn)
  rw [he1] at HTR
  have hS1 : Riseu es1 := he1 ▸ cutu_rise _ es hS
  have hn1 : es1.length ≤ 1000000 := by have := (cutu_sub (es.length - m) es).length_le; rw [he1] at this; omega
  have hh1 : hasu es1 key = false := he1 ▸ cutu_has _ es key hS hh
  have HP2 := Aside0.mk (fun W (hW : Tabu W g b es1 room span) => placeu_c W g b es1 room span key hW hS1 hn1)
  rw [hh1] at HP2
  have ha : accu es key moment room = es1.take (lowu es1 key) ++ ⟨key, moment, false⟩ :: es1.drop (lowu es1 key) := by unfold accu putInu; rw [hh, hm, he1]; rfl
  have hle := lowu_le es1 key
  obtain ⟨lo, hlo⟩ : ∃ lo, lowu es1 key = lo := ⟨_, rfl⟩
  rw [hlo] at HP2 ha hle
  have HA := Aside0.mk ha
  have HLE := Aside0.mk hle
  have HN1 := Aside0.mk hn1
  have HT := Aside0.mk H
  have HF := Aside0.mk (Fr.refl (fun k => k = g ∨ k = b) w)
  have hw1 : wrap64 (room - 1) = ((m : Nat) : Int) := by rw [wrap64_id (by unfold I64; omega)]; omega
  clear hS hn ha hlo H hm he1 hS1 hn1 hh1 hle hr1 hr2 hh
  go_enter Try.func37, Try.ntmps37
  go_upto_region 2 with (first | (go_at_call 38; refine (HP.out _ HT.out).mono ?_; rintro e_ w1 ⟨rfl, hb_⟩; have HT := Aside0.mk (HT.out.below hb_); have HF := Aside0.mk (HF.out.below hb_); clear hb_) | fail)
  have hcr : w1.cell? ⟨g, 1, none⟩ = some (.int .i64 room) := by
    obtain ⟨sl, hg, _⟩ := HT.out
    exact (blk_cell hg 1).trans rfl
  go_upto_region 3 with (first | (go_at_call 49; refine (HTR.out _ HT.out).mono ?_; rintro e_ w2 ⟨rfl, ht_, hf_⟩; have HT := Aside0.mk ht_; have HF := Aside0.mk (HF.out.trans hf_ (fun j hj => .inl hj)); clear ht_ hf_) | fail)
  clear hcr
  go_upto_region 5 with (first | (go_at_call 38; refine (HP2.out _ HT.out).mono ?_; rintro e_ w3 ⟨rfl, hb_⟩; have HT := Aside0.mk (HT.out.below hb_); have HF := Aside0.mk (HF.out.below hb_); clear hb_) | fail)
  obtain ⟨sl, hg_, hs_⟩ := HT.out
  have hcell : w3.cell? ⟨g, 0, none⟩ = some sl := (blk_cell hg_ 0).trans rfl
  have HG := Aside0.mk hg_
  have HS := Aside0.mk hs_
  clear hg_ hs_
  have hbl : b < w3.heap.size := by
    rcases HS.out with ⟨_, _, rfl⟩ | ⟨_, c, rest, _, hr, _⟩
    · exact blk_lt HG.out
    · exact blk_lt hr
  have HI := Aside0.mk (insertu_c (w3.alloc (.cells #[.int .u32 key, .int .i64 0, .bool false] 37)) g b w3.heap.size sl es1 lo ⟨key, 0, false⟩ (HS.out.below (below_alloc (Below.refl _ _) _)) HLE.out (blk_new _ _) (by omega) HN1.out)
  have HGA := Aside0.mk (blk_alloc HG.out (.cells #[.int .u32 key, .int .i64 0, .bool false] 37))
  have HFA := Aside0.mk (HF.out.alloc (.cells #[.int .u32 key, .int .i64 0, .bool false] 37))
  clear hbl
  obtain ⟨n1, hn1⟩ : ∃ n1, (es1.take lo ++ (⟨key, 0, false⟩ : S37) :: es1.drop lo).length = n1 := ⟨_, rfl⟩
  have HNN := Aside0.mk hn1
  clear hn1
  have HFIN : ∀ (b0 b1 c1 : Nat) (rest1 : List Value) (w5 : World), ((b0 = b ∧ b ≠ g) ∨ (w3.alloc (.cells #[.int .u32 key, .int .i64 0, .bool false] 37)).heap.size ≤ b0) → Rowu w5 b1 (es1.take lo ++ (⟨key, 0, false⟩ : S37) :: es1.drop lo) rest1 → (encsu (es1.take lo ++ (⟨key, 0, false⟩ : S37) :: es1.drop lo) ++ rest1).length = c1 * 3 → c1 ≤ 9223372036854775807 → (b1 = b0 ∨ (w3.alloc (.cells #[.int .u32 key, .int .i64 0, .bool false] 37)).heap.size ≤ b1) →
      Fr (fun k => k = b0) (w3.alloc (.cells #[.int .u32 key, .int .i64 0, .bool false] 37)) w5 →
      w5.heap[g]? = some (.cells #[sl, .int .i64 room, .int .i64 span] 77 (0, 0)) ∧ w5.heap[b1]? = some (.cells (RWu (encsu (es1.take lo)) (encsu (es1.drop lo) ++ rest1) key 0 false) 37 (0, 0)) ∧ Fr (fun k => k = g ∨ k = b) w w5 ∧ g ≠ b1 ∧ (encsu (es1.take lo)).length = lo * 3 ∧ (lo : Int) < (n1 : Int) ∧ ((b1 = g ∨ b1 = b) ∨ w.heap.size ≤ b1) ∧
      (∀ W : World, W.heap[g]? = some (.cells #[.slice (some ⟨b1, 0, none⟩) n1 c1, .int .i64 room, .int .i64 span] 77 (0, 0)) → W.heap[b1]? = some (.cells (RWu (encsu (es1.take lo)) (encsu (es1.drop lo) ++ rest1) key moment false) 37 (0, 0)) → Fr (fun k => k = g ∨ k = b) w W → ∃ b', Tabu W g b' (accu es key moment room) room span ∧ (b' = b ∨ w.heap.size ≤ b') ∧ Fr (fun k => k = g ∨ k = b) w W) := by
    intro b0 b1 c1 rest1 w5 hb0 hr hl hc hb1 hf
    have hsz : w3.heap.size ≤ (w3.alloc (.cells #[.int .u32 key, .int .i64 0, .bool false] 37)).heap.size := (below_alloc (Below.refl _ _) _).size
    have hgl := blk_lt HG.out
    have hws := HF.out.size
    have hgb0 : g ≠ b0 := by
      rcases hb0 with ⟨rfl, h⟩ | h
      · exact fun e => h e.symm
      · omega
    have hgb1 : g ≠ b1 := by
      rcases hb1 with rfl | h
      · exact hgb0
      · omega
    have hbb : b1 = b ∨ w.heap.size ≤ b1 := by
      rcases hb1 with rfl | h
      · rcases hb0 with ⟨rfl, _⟩ | h2
        · exact .inl rfl
        · exact .inr (by omega)
      · exact .inr (by omega)
    have hn1 := HNN.out
    have hle := HLE.out
    have hlen : n1 = es1.length + 1 := by
      rw [← hn1, List.length_append, List.length_cons, List.length_take, List.length_drop]
      omega
    have hn2 : (es1.take lo ++ (⟨key, moment, false⟩ : S37) :: es1.drop lo).length = n1 := by
      rw [← hn1, List.length_append, List.length_append, List.length_cons, List.length_cons]
    refine ⟨(hf.block g (blk_lt HGA.out) hgb0).trans HGA.out, by rw [show _ = _ from hr, RWu_row], HFA.out.trans hf (fun j hj => ?_), hgb1, by rw [encsu_len, List.length_take]; omega, by omega, hbb.elim (fun h => .inl (.inr h)) .inr, fun W h1 h2 h3 => ⟨b1, ⟨_, h1, .inr ⟨hgb1.symm, c1, rest1, ?_, ?_, ?_, hc⟩⟩, hbb, h3⟩⟩
    · subst hj
      rcases hb0 with ⟨rfl, _⟩ | h2
      · exact .inl (.inr rfl)
      · exact .inr (by omega)
    · rw [HA.out, hn2]
    · rw [HA.out]
      show _ = _
      rw [h2, RWu_row]
    · rw [HA.out, ← hl]
      simp only [List.length_append, encsu_len, List.length_cons]
  have HFI := Aside0.mk HFIN
  clear HFIN
  obtain ⟨EA, hEA⟩ : ∃ EA, encsu (es1.take lo) = EA := ⟨_, rfl⟩
  rw [hEA] at HFI
  clear hEA
  go_upto_region 6 with (first | (go_at_call 56; refine HI.out.mono ?_; rintro e_ w5 ⟨b0, hb0, b1, c1, rest1, rfl, hr_, hl_, hc_, hb_, hf_⟩; have HX_ := Aside0.mk (HFI.out b0 b1 c1 rest1 w5 hb0 hr_ hl_ hc_ hb_ hf_); clear hb0 hr_ hl_ hc_ hb_ hf_ hcell; rw [HNN.out]) | ((with_reducible refine gate_store (t := 43) (p := 44) rfl ?_); refine store_part rfl 43 _ _ rfl rfl g 0 (.slice (some ⟨b1, 0, none⟩) n1 c1) [.slice (some ⟨b1, 0, none⟩) n1 c1] rfl rfl rfl (by simp [Value.oneCell']) 77 _ #[.slice (some ⟨b1, 0, none⟩) n1 c1, .int .i64 room, .int .i64 span] HX_.out.1 (by simp) (by kernel_rfl) (by rfl) ?_) | fail)
  obtain ⟨x1, x2, x3, x4, x5, x6, x7, x8⟩ := HX_.out
  obtain ⟨EC, hEC⟩ : ∃ EC, encsu (es1.drop lo) ++ rest1 = EC := ⟨_, rfl⟩
  rw [hEC] at x2 x8
  have K6 := Aside0.mk (And.intro (setRow_heap w5 g _ #[.slice (some ⟨b1, 0, none⟩) n1 c1, .int .i64 room, .int .i64 span] _ _ x1) (And.intro ((setRow_ne w5 g b1 #[.slice (some ⟨b1, 0, none⟩) n1 c1, .int .i64 room, .int .i64 span] x4.symm).trans x2) (x3.set g #[.slice (some ⟨b1, 0, none⟩) n1 c1, .int .i64 room, .int .i64 span] (.inl (.inl rfl)))))
  have HGB := Aside0.mk x4
  have HEA := Aside0.mk x5
  have hlt1 := x6
  have HSB := Aside0.mk x7
  have HEND := Aside0.mk x8
  clear x1 x2 x3 x4 x5 x6 x7 x8 HX_ HFI HI HGA HFA HG HS HT HF hEC
  generalize w5.setRow g #[.slice (some ⟨b1, 0, none⟩) n1 c1, .int .i64 room, .int .i64 span] = w6 at K6 ⊢
  obtain ⟨y1, hy1⟩ : ∃ y1 : Int, (0 : Int) = y1 := ⟨_, rfl⟩
  obtain ⟨y2, hy2⟩ : ∃ y2 : Bool, false = y2 := ⟨_, rfl⟩
  have K6 := Aside0.mk (show w6.heap[g]? = some (.cells #[.slice (some ⟨b1, 0, none⟩) n1 c1, .int .i64 room, .int .i64 span] 77 (0, 0)) ∧ w6.heap[b1]? = some (.cells (RWu EA EC key y1 y2) 37 (0, 0)) ∧ Fr (fun k => k = g ∨ k = b) w w6 from by rw [← hy1, ← hy2]; exact K6.out)
  clear hy1 hy2
  refine region_inv (T := ?T6) [some 45, some 46, some 47, some 48, some 49, some 50, some 51, some 52, some 53, some 54, some 55, some 56, some 57, none, some 58, some 59, none] ?hT6 (fun dn_ X w_ => w_.heap[g]? = some (.cells #[.slice (some ⟨b1, 0, none⟩) n1 c1, .int .i64 room, .int .i64 span] 77 (0, 0)) ∧ w_.heap[b1]? = some (.cells (RWu EA EC key (bif dn_ 13 then moment else y1) (bif dn_ 16 then false else y2)) 37 (0, 0)) ∧ Fr (fun k => k = g ∨ k = b) w w_ ∧ (dn_ 0 = true → X 0 = .pointer (some ⟨g, 0, none⟩)) ∧ (dn_ 1 = true → X 1 = .pointer (some ⟨g, 0, none⟩)) ∧ (dn_ 2 = true → X 2 = .pointer (some ⟨g, 0, none⟩)) ∧ (dn_ 3 = true → X 3 = .slice (some ⟨b1, 0, none⟩) n1 c1) ∧ (dn_ 4 = true → X 4 = .int .i64 lo) ∧ (dn_ 5 = true → X 5 = .pointer (some ⟨g, 0, none⟩)) ∧ (dn_ 6 = true → X 6 = .pointer (some ⟨g, 0, none⟩)) ∧ (dn_ 7 = true → X 7 = .pointer (some ⟨g, 0, none⟩)) ∧ (dn_ 8 = true → X 8 = .slice (some ⟨b1, 0, none⟩) n1 c1) ∧ (dn_ 9 = true → X 9 = .int .i64 lo) ∧ (dn_ 10 = true → X 10 = .int .i64 moment) ∧ (dn_ 11 = true → X 11 = .pointer (some ⟨b1, lo * 3, none⟩)) ∧ (dn_ 12 = true → X 12 = .pointer (some ⟨b1, lo * 3 + 1, none⟩)) ∧ (dn_ 13 = true → True) ∧ (dn_ 14 = true → X 14 = .pointer (some ⟨b1, lo * 3, none⟩)) ∧ (dn_ 15 = true → X 15 = .pointer (some ⟨b1, lo * 3 + 2, none⟩)) ∧ (dn_ 16 = true → True)) (by kernel_rfl) (by kernel_rfl) (by rfl) [0, 1, 2, 3, 4, 5, 6, 7, 8, 9, 10, 11, 12, 13, 14, 15, 16] rfl (.cons (some 45) rfl rfl (fun dn_ X w_ hd0_ hd_ hI_ K hK => ?_) (.cons (some 46) rfl rfl (fun dn_ X w_ hd0_ hd_ hI_ K hK => ?_) (.cons (some 47) rfl rfl (fun dn_ X w_ hd0_ hd_ hI_ K hK => ?_) (.cons (some 48) rfl rfl (fun dn_ X w_ hd0_ hd_ hI_ K hK => ?_) (.cons (some 49) rfl rfl (fun dn_ X w_ hd0_ hd_ hI_ K hK => ?_) (.cons (some 50) rfl rfl (fun dn_ X w_ hd0_ hd_ hI_ K hK => ?_) (.cons (some 51) rfl rfl (fun dn_ X w_ hd0_ hd_ hI_ K hK => ?_) (.cons (some 52) rfl rfl (fun dn_ X w_ hd0_ hd_ hI_ K hK => ?_) (.cons (some 53) rfl rfl (fun dn_ X w_ hd0_ hd_ hI_ K hK => ?_) (.cons (some 54) rfl rfl (fun dn_ X w_ hd0_ hd_ hI_ K hK => ?_) (.cons (some 55) rfl rfl (fun dn_ X w_ hd0_ hd_ hI_ K hK => ?_) (.cons (some 56) rfl rfl (fun dn_ X w_ hd0_ hd_ hI_ K hK => ?_) (.cons (some 57) rfl rfl (fun dn_ X w_ hd0_ hd_ hI_ K hK => ?_) (.cons none rfl rfl (fun dn_ X w_ hd0_ hd_ hI_ K hK => ?_) (.cons (some 58) rfl rfl (fun dn_ X w_ hd0_ hd_ hI_ K hK => ?_) (.cons (some 59) rfl rfl (fun dn_ X w_ hd0_ hd_ hI_ K hK => ?_) (.cons none rfl rfl (fun dn_ X w_ hd0_ hd_ hI_ K hK => ?_) .nil))))))))))))))))) ?h06 ?hend6
  case hT6 =>
    intro X
    simp only [fill, Act.put, List.setIfInBounds_toArray, List.set_cons_zero, List.set_cons_succ, Nat.zero_add, Nat.reduceAdd]
    rfl
  case h06 =>
    exact ⟨K6.out.1, K6.out.2.1, K6.out.2.2.drew, (fun h => by cases h), (fun h => by cases h), (fun h => by cases h), (fun h => by cases h), (fun h => by cases h), (fun h => by cases h), (fun h => by cases h), (fun h => by cases h), (fun h => by cases h), (fun h => by cases h), (fun h => by cases h), (fun h => by cases h), (fun h => by cases h), (fun h => by cases h), (fun h => by cases h), (fun h => by cases h), (fun h => by cases h)⟩
  · -- 0
    refine val_ (w1 := w_) (v := .pointer (some ⟨g, 0, none⟩)) (by rfl) rfl ?_ (hK.out _ _ _ rfl ⟨hI_.1, hI_.2.1, hI_.2.2.1, (fun _ => rfl), hI_.2.2.2.2.1, hI_.2.2.2.2.2.1, hI_.2.2.2.2.2.2.1, hI_.2.2.2.2.2.2.2.1, hI_.2.2.2.2.2.2.2.2.1, hI_.2.2.2.2.2.2.2.2.2.1, hI_.2.2.2.2.2.2.2.2.2.2.1, hI_.2.2.2.2.2.2.2.2.2.2.2.1, hI_.2.2.2.2.2.2.2.2.2.2.2.2.1, hI_.2.2.2.2.2.2.2.2.2.2.2.2.2.1, hI_.2.2.2.2.2.2.2.2.2.2.2.2.2.2.1, hI_.2.2.2.2.2.2.2.2.2.2.2.2.2.2.2.1, hI_.2.2.2.2.2.2.2.2.2.2.2.2.2.2.2.2.1, hI_.2.2.2.2.2.2.2.2.2.2.2.2.2.2.2.2.2.1, hI_.2.2.2.2.2.2.2.2.2.2.2.2.2.2.2.2.2.2.1, hI_.2.2.2.2.2.2.2.2.2.2.2.2.2.2.2.2.2.2.2⟩)
    go_simp
    all_goals (first | decide | rfl)
  · -- 1
    have e0 := hI_.2.2.2.1 (hd_ 1 0 (by kernel_rfl))
    refine val_ (w1 := w_) (v := .pointer (some ⟨g, 0, none⟩)) (by rfl) rfl ?_ (hK.out _ _ _ rfl ⟨hI_.1, hI_.2.1, hI_.2.2.1, hI_.2.2.2.1, (fun _ => rfl), hI_.2.2.2.2.2.1, hI_.2.2.2.2.2.2.1, hI_.2.2.2.2.2.2.2.1, hI_.2.2.2.2.2.2.2.2.1, hI_.2.2.2.2.2.2.2.2.2.1, hI_.2.2.2.2.2.2.2.2.2.2.1, hI_.2.2.2.2.2.2.2.2.2.2.2.1, hI_.2.2.2.2.2.2.2.2.2.2.2.2.1, hI_.2.2.2.2.2.2.2.2.2.2.2.2.2.1, hI_.2.2.2.2.2.2.2.2.2.2.2.2.2.2.1, hI_.2.2.2.2.2.2.2.2.2.2.2.2.2.2.2.1, hI_.2.2.2.2.2.2.2.2.2.2.2.2.2.2.2.2.1, hI_.2.2.2.2.2.2.2.2.2.2.2.2.2.2.2.2.2.1, hI_.2.2.2.2.2.2.2.2.2.2.2.2.2.2.2.2.2.2.1, hI_.2.2.2.2.2.2.2.2.2.2.2.2.2.2.2.2.2.2.2⟩)
    go_simp
    all_goals (first | decide | rfl)
  · -- 2
    have e1 := hI_.2.2.2.2.1 (hd_ 1 1 (by kernel_rfl))
    refine val_ (w1 := w_) (v := .pointer (some ⟨g, 0, none⟩)) (by rfl) rfl ?_ (hK.out _ _ _ rfl ⟨hI_.1, hI_.2.1, hI_.2.2.1, hI_.2.2.2.1, hI_.2.2.2.2.1, (fun _ => rfl), hI_.2.2.2.2.2.2.1, hI_.2.2.2.2.2.2.2.1, hI_.2.2.2.2.2.2.2.2.1, hI_.2.2.2.2.2.2.2.2.2.1, hI_.2.2.2.2.2.2.2.2.2.2.1, hI_.2.2.2.2.2.2.2.2.2.2.2.1, hI_.2.2.2.2.2.2.2.2.2.2.2.2.1, hI_.2.2.2.2.2.2.2.2.2.2.2.2.2.1, hI_.2.2.2.2.2.2.2.2.2.2.2.2.2.2.1, hI_.2.2.2.2.2.2.2.2.2.2.2.2.2.2.2.1, hI_.2.2.2.2.2.2.2.2.2.2.2.2.2.2.2.2.1, hI_.2.2.2.2.2.2.2.2.2.2.2.2.2.2.2.2.2.1, hI_.2.2.2.2.2.2.2.2.2.2.2.2.2.2.2.2.2.2.1, hI_.2.2.2.2.2.2.2.2.2.2.2.2.2.2.2.2.2.2.2⟩)
    go_simp
    all_goals (first | decide | rfl)
  · -- 3
    have wG := hI_.1
    have e2 := hI_.2.2.2.2.2.1 (hd_ 1 2 (by kernel_rfl))
    have z0_ := (blk_cell wG 0).trans (show (#[.slice (some ⟨b1, 0, none⟩) n1 c1, .int .i64 room, .int .i64 span] : Array Value)[0]? = some (.slice (some ⟨b1, 0, none⟩) n1 c1) from rfl)
    refine val_ (w1 := w_) (v := .slice (some ⟨b1, 0, none⟩) n1 c1) (by rfl) rfl ?_ (hK.out _ _ _ rfl ⟨hI_.1, hI_.2.1, hI_.2.2.1, hI_.2.2.2.1, hI_.2.2.2.2.1, hI_.2.2.2.2.2.1, (fun _ => rfl), hI_.2.2.2.2.2.2.2.1, hI_.2.2.2.2.2.2.2.2.1, hI_.2.2.2.2.2.2.2.2.2.1, hI_.2.2.2.2.2.2.2.2.2.2.1, hI_.2.2.2.2.2.2.2.2.2.2.2.1, hI_.2.2.2.2.2.2.2.2.2.2.2.2.1, hI_.2.2.2.2.2.2.2.2.2.2.2.2.2.1, hI_.2.2.2.2.2.2.2.2.2.2.2.2.2.2.1, hI_.2.2.2.2.2.2.2.2.2.2.2.2.2.2.2.1, hI_.2.2.2.2.2.2.2.2.2.2.2.2.2.2.2.2.1, hI_.2.2.2.2.2.2.2.2.2.2.2.2.2.2.2.2.2.1, hI_.2.2.2.2.2.2.2.2.2.2.2.2.2.2.2.2.2.2.1, hI_.2.2.2.2.2.2.2.2.2.2.2.2.2.2.2.2.2.2.2⟩)
    go_simp
    all_goals (first | decide | rfl)
  · -- 4
    refine val_ (w1 := w_) (v := .int .i64 lo) (by rfl) rfl ?_ (hK.out _ _ _ rfl ⟨hI_.1, hI_.2.1, hI_.2.2.1, hI_.2.2.2.1, hI_.2.2.2.2.1, hI_.2.2.2.2.2.1, hI_.2.2.2.2.2.2.1, (fun _ => rfl), hI_.2.2.2.2.2.2.2.2.1, hI_.2.2.2.2.2.2.2.2.2.1, hI_.2.2.2.2.2.2.2.2.2.2.1, hI_.2.2.2.2.2.2.2.2.2.2.2.1, hI_.2.2.2.2.2.2.2.2.2.2.2.2.1, hI_.2.2.2.2.2.2.2.2.2.2.2.2.2.1, hI_.2.2.2.2.2.2.2.2.2.2.2.2.2.2.1, hI_.2.2.2.2.2.2.2.2.2.2.2.2.2.2.2.1, hI_.2.2.2.2.2.2.2.2.2.2.2.2.2.2.2.2.1, hI_.2.2.2.2.2.2.2.2.2.2.2.2.2.2.2.2.2.1, hI_.2.2.2.2.2.2.2.2.2.2.2.2.2.2.2.2.2.2.1, hI_.2.2.2.2.2.2.2.2.2.2.2.2.2.2.2.2.2.2.2⟩)
    go_simp
    all_goals (first | decide | rfl)
  · -- 5
    refine val_ (w1 := w_) (v := .pointer (some ⟨g, 0, none⟩)) (by rfl) rfl ?_ (hK.out _ _ _ rfl ⟨hI_.1, hI_.2.1, hI_.2.2.1, hI_.2.2.2.1, hI_.2.2.2.2.1, hI_.2.2.2.2.2.1, hI_.2.2.2.2.2.2.1, hI_.2.2.2.2.2.2.2.1, (fun _ => rfl), hI_.2.2.2.2.2.2.2.2.2.1, hI_.2.2.2.2.2.2.2.2.2.2.1, hI_.2.2.2.2.2.2.2.2.2.2.2.1, hI_.2.2.2.2.2.2.2.2.2.2.2.2.1, hI_.2.2.2.2.2.2.2.2.2.2.2.2.2.1, hI_.2.2.2.2.2.2.2.2.2.2.2.2.2.2.1, hI_.2.2.2.2.2.2.2.2.2.2.2.2.2.2.2.1, hI_.2.2.2.2.2.2.2.2.2.2.2.2.2.2.2.2.1, hI_.2.2.2.2.2.2.2.2.2.2.2.2.2.2.2.2.2.1, hI_.2.2.2.2.2.2.2.2.2.2.2.2.2.2.2.2.2.2.1, hI_.2.2.2.2.2.2.2.2.2.2.2.2.2.2.2.2.2.2.2⟩)
    go_simp
    all_goals (first | decide | rfl)
  · -- 6
    have e5 := hI_.2.2.2.2.2.2.2.2.1 (hd_ 1 5 (by kernel_rfl))
    refine val_ (w1 := w_) (v := .pointer (some ⟨g, 0, none⟩)) (by rfl) rfl ?_ (hK.out _ _ _ rfl ⟨hI_.1, hI_.2.1, hI_.2.2.1, hI_.2.2.2.1, hI_.2.2.2.2.1, hI_.2.2.2.2.2.1, hI_.2.2.2.2.2.2.1, hI_.2.2.2.2.2.2.2.1, hI_.2.2.2.2.2.2.2.2.1, (fun _ => rfl), hI_.2.2.2.2.2.2.2.2.2.2.1, hI_.2.2.2.2.2.2.2.2.2.2.2.1, hI_.2.2.2.2.2.2.2.2.2.2.2.2.1, hI_.2.2.2.2.2.2.2.2.2.2.2.2.2.1, hI_.2.2.2.2.2.2.2.2.2.2.2.2.2.2.1, hI_.2.2.2.2.2.2.2.2.2.2.2.2.2.2.2.1, hI_.2.2.2.2.2.2.2.2.2.2.2.2.2.2.2.2.1, hI_.2.2.2.2.2.2.2.2.2.2.2.2.2.2.2.2.2.1, hI_.2.2.2.2.2.2.2.2.2.2.2.2.2.2.2.2.2.2.1, hI_.2.2.2.2.2.2.2.2.2.2.2.2.2.2.2.2.2.2.2⟩)
    go_simp
    all_goals (first | decide | rfl)
  · -- 7
    have e6 := hI_.2.2.2.2.2.2.2.2.2.1 (hd_ 1 6 (by kernel_rfl))
    refine val_ (w1 := w_) (v := .pointer (some ⟨g, 0, none⟩)) (by rfl) rfl ?_ (hK.out _ _ _ rfl ⟨hI_.1, hI_.2.1, hI_.2.2.1, hI_.2.2.2.1, hI_.2.2.2.2.1, hI_.2.2.2.2.2.1, hI_.2.2.2.2.2.2.1, hI_.2.2.2.2.2.2.2.1, hI_.2.2.2.2.2.2.2.2.1, hI_.2.2.2.2.2.2.2.2.2.1, (fun _ => rfl), hI_.2.2.2.2.2.2.2.2.2.2.2.1, hI_.2.2.2.2.2.2.2.2.2.2.2.2.1, hI_.2.2.2.2.2.2.2.2.2.2.2.2.2.1, hI_.2.2.2.2.2.2.2.2.2.2.2.2.2.2.1, hI_.2.2.2.2.2.2.2.2.2.2.2.2.2.2.2.1, hI_.2.2.2.2.2.2.2.2.2.2.2.2.2.2.2.2.1, hI_.2.2.2.2.2.2.2.2.2.2.2.2.2.2.2.2.2.1, hI_.2.2.2.2.2.2.2.2.2.2.2.2.2.2.2.2.2.2.1, hI_.2.2.2.2.2.2.2.2.2.2.2.2.2.2.2.2.2.2.2⟩)
    go_simp
    all_goals (first | decide | rfl)
  · -- 8
    have wG := hI_.1
    have e7 := hI_.2.2.2.2.2.2.2.2.2.2.1 (hd_ 1 7 (by kernel_rfl))
    have z0_ := (blk_cell wG 0).trans (show (#[.slice (some ⟨b1, 0, none⟩) n1 c1, .int .i64 room, .int .i64 span] : Array Value)[0]? = some (.slice (some ⟨b1, 0, none⟩) n1 c1) from rfl)
    refine val_ (w1 := w_) (v := .slice (some ⟨b1, 0, none⟩) n1 c1) (by rfl) rfl ?_ (hK.out _ _ _ rfl ⟨hI_.1, hI_.2.1, hI_.2.2.1, hI_.2.2.2.1, hI_.2.2.2.2.1, hI_.2.2.2.2.2.1, hI_.2.2.2.2.2.2.1, hI_.2.2.2.2.2.2.2.1, hI_.2.2.2.2.2.2.2.2.1, hI_.2.2.2.2.2.2.2.2.2.1, hI_.2.2.2.2.2.2.2.2.2.2.1, (fun _ => rfl), hI_.2.2.2.2.2.2.2.2.2.2.2.2.1, hI_.2.2.2.2.2.2.2.2.2.2.2.2.2.1, hI_.2.2.2.2.2.2.2.2.2.2.2.2.2.2.1, hI_.2.2.2.2.2.2.2.2.2.2.2.2.2.2.2.1, hI_.2.2.2.2.2.2.2.2.2.2.2.2.2.2.2.2.1, hI_.2.2.2.2.2.2.2.2.2.2.2.2.2.2.2.2.2.1, hI_.2.2.2.2.2.2.2.2.2.2.2.2.2.2.2.2.2.2.1, hI_.2.2.2.2.2.2.2.2.2.2.2.2.2.2.2.2.2.2.2⟩)
    go_simp
    all_goals (first | decide | rfl)
  · -- 9
    refine val_ (w1 := w_) (v := .int .i64 lo) (by rfl) rfl ?_ (hK.out _ _ _ rfl ⟨hI_.1, hI_.2.1, hI_.2.2.1, hI_.2.2.2.1, hI_.2.2.2.2.1, hI_.2.2.2.2.2.1, hI_.2.2.2.2.2.2.1, hI_.2.2.2.2.2.2.2.1, hI_.2.2.2.2.2.2.2.2.1, hI_.2.2.2.2.2.2.2.2.2.1, hI_.2.2.2.2.2.2.2.2.2.2.1, hI_.2.2.2.2.2.2.2.2.2.2.2.1, (fun _ => rfl), hI_.2.2.2.2.2.2.2.2.2.2.2.2.2.1, hI_.2.2.2.2.2.2.2.2.2.2.2.2.2.2.1, hI_.2.2.2.2.2.2.2.2.2.2.2.2.2.2.2.1, hI_.2.2.2.2.2.2.2.2.2.2.2.2.2.2.2.2.1, hI_.2.2.2.2.2.2.2.2.2.2.2.2.2.2.2.2.2.1, hI_.2.2.2.2.2.2.2.2.2.2.2.2.2.2.2.2.2.2.1, hI_.2.2.2.2.2.2.2.2.2.2.2.2.2.2.2.2.2.2.2⟩)
    go_simp
    all_goals (first | decide | rfl)
  · -- 10
    refine val_ (w1 := w_) (v := .int .i64 moment) (by rfl) rfl ?_ (hK.out _ _ _ rfl ⟨hI_.1, hI_.2.1, hI_.2.2.1, hI_.2.2.2.1, hI_.2.2.2.2.1, hI_.2.2.2.2.2.1, hI_.2.2.2.2.2.2.1, hI_.2.2.2.2.2.2.2.1, hI_.2.2.2.2.2.2.2.2.1, hI_.2.2.2.2.2.2.2.2.2.1, hI_.2.2.2.2.2.2.2.2.2.2.1, hI_.2.2.2.2.2.2.2.2.2.2.2.1, hI_.2.2.2.2.2.2.2.2.2.2.2.2.1, (fun _ => rfl), hI_.2.2.2.2.2.2.2.2.2.2.2.2.2.2.1, hI_.2.2.2.2.2.2.2.2.2.2.2.2.2.2.2.1, hI_.2.2.2.2.2.2.2.2.2.2.2.2.2.2.2.2.1, hI_.2.2.2.2.2.2.2.2.2.2.2.2.2.2.2.2.2.1, hI_.2.2.2.2.2.2.2.2.2.2.2.2.2.2.2.2.2.2.1, hI_.2.2.2.2.2.2.2.2.2.2.2.2.2.2.2.2.2.2.2⟩)
    go_simp
    all_goals (first | decide | rfl)
  · -- 11
    have e3 := hI_.2.2.2.2.2.2.1 (hd_ 1 3 (by kernel_rfl))
    have e4 := hI_.2.2.2.2.2.2.2.1 (hd_ 1 4 (by kernel_rfl))
    refine val_ (w1 := w_) (v := .pointer (some ⟨b1, lo * 3, none⟩)) (by rfl) rfl ?_ (hK.out _ _ _ rfl ⟨hI_.1, hI_.2.1, hI_.2.2.1, hI_.2.2.2.1, hI_.2.2.2.2.1, hI_.2.2.2.2.2.1, hI_.2.2.2.2.2.2.1, hI_.2.2.2.2.2.2.2.1, hI_.2.2.2.2.2.2.2.2.1, hI_.2.2.2.2.2.2.2.2.2.1, hI_.2.2.2.2.2.2.2.2.2.2.1, hI_.2.2.2.2.2.2.2.2.2.2.2.1, hI_.2.2.2.2.2.2.2.2.2.2.2.2.1, hI_.2.2.2.2.2.2.2.2.2.2.2.2.2.1, (fun _ => rfl), hI_.2.2.2.2.2.2.2.2.2.2.2.2.2.2.2.1, hI_.2.2.2.2.2.2.2.2.2.2.2.2.2.2.2.2.1, hI_.2.2.2.2.2.2.2.2.2.2.2.2.2.2.2.2.2.1, hI_.2.2.2.2.2.2.2.2.2.2.2.2.2.2.2.2.2.2.1, hI_.2.2.2.2.2.2.2.2.2.2.2.2.2.2.2.2.2.2.2⟩)
    go_simp
    all_goals (first | decide | rfl)
  · -- 12
    have e11 := hI_.2.2.2.2.2.2.2.2.2.2.2.2.2.2.1 (hd_ 1 11 (by kernel_rfl))
    refine val_ (w1 := w_) (v := .pointer (some ⟨b1, lo * 3 + 1, none⟩)) (by rfl) rfl ?_ (hK.out _ _ _ rfl ⟨hI_.1, hI_.2.1, hI_.2.2.1, hI_.2.2.2.1, hI_.2.2.2.2.1, hI_.2.2.2.2.2.1, hI_.2.2.2.2.2.2.1, hI_.2.2.2.2.2.2.2.1, hI_.2.2.2.2.2.2.2.2.1, hI_.2.2.2.2.2.2.2.2.2.1, hI_.2.2.2.2.2.2.2.2.2.2.1, hI_.2.2.2.2.2.2.2.2.2.2.2.1, hI_.2.2.2.2.2.2.2.2.2.2.2.2.1, hI_.2.2.2.2.2.2.2.2.2.2.2.2.2.1, hI_.2.2.2.2.2.2.2.2.2.2.2.2.2.2.1, (fun _ => rfl), hI_.2.2.2.2.2.2.2.2.2.2.2.2.2.2.2.2.1, hI_.2.2.2.2.2.2.2.2.2.2.2.2.2.2.2.2.2.1, hI_.2.2.2.2.2.2.2.2.2.2.2.2.2.2.2.2.2.2.1, hI_.2.2.2.2.2.2.2.2.2.2.2.2.2.2.2.2.2.2.2⟩)
    go_simp
    all_goals (first | decide | rfl)
  · -- 13
    have wG := hI_.1
    have wB := hI_.2.1
    have wF := hI_.2.2.1
    have h0 := hI_.2.2.2.1
    have h1 := hI_.2.2.2.2.1
    have h2 := hI_.2.2.2.2.2.1
    have h3 := hI_.2.2.2.2.2.2.1
    have h4 := hI_.2.2.2.2.2.2.2.1
    have h5 := hI_.2.2.2.2.2.2.2.2.1
    have h6 := hI_.2.2.2.2.2.2.2.2.2.1
    have h7 := hI_.2.2.2.2.2.2.2.2.2.2.1
    have h8 := hI_.2.2.2.2.2.2.2.2.2.2.2.1
    have h9 := hI_.2.2.2.2.2.2.2.2.2.2.2.2.1
    have h10 := hI_.2.2.2.2.2.2.2.2.2.2.2.2.2.1
    have h11 := hI_.2.2.2.2.2.2.2.2.2.2.2.2.2.2.1
    have h12 := hI_.2.2.2.2.2.2.2.2.2.2.2.2.2.2.2.1
    have h13 := hI_.2.2.2.2.2.2.2.2.2.2.2.2.2.2.2.2.1
    have h14 := hI_.2.2.2.2.2.2.2.2.2.2.2.2.2.2.2.2.2.1
    have h15 := hI_.2.2.2.2.2.2.2.2.2.2.2.2.2.2.2.2.2.2.1
    have h16 := hI_.2.2.2.2.2.2.2.2.2.2.2.2.2.2.2.2.2.2.2
    have e10 := h10 (hd_ 1 10 (by kernel_rfl))
    have e12 := h12 (hd_ 1 12 (by kernel_rfl))
    have wB0 : w_.heap[b1]? = some (.cells (RWu EA EC key y1 (bif dn_ 16 then false else y2)) 37 (0, 0)) := by rw [hd0_] at wB; exact wB
    rw [if_pos (by rfl)]
    refine wp_store_part 2 _ _ rfl b1 (lo * 3 + 1) (.int .i64 moment) [.int .i64 moment] ?_ ?_ rfl (by simp [Value.oneCell']) 37 _ (RWu EA EC key moment (bif dn_ 16 then false else y2)) wB0 (RWu_size _ _ _ _ _ lo 1 HEA.out (by decide)) (by kernel_rfl) (rwau _ _ _ _ _ _ lo HEA.out) ?_
    · exact e12
    · exact e10
    · exact hK.out _ undef _ rfl ⟨((setRow_ne _ _ _ _ HGB.out).trans wG), (setRow_heap _ b1 _ _ _ _ wB0), (wF.set b1 _ HSB.out), h0, h1, h2, h3, h4, h5, h6, h7, h8, h9, h10, h11, h12, (fun _ => trivial), h14, h15, h16⟩
  · -- 14
    have e8 := hI_.2.2.2.2.2.2.2.2.2.2.2.1 (hd_ 1 8 (by kernel_rfl))
    have e9 := hI_.2.2.2.2.2.2.2.2.2.2.2.2.1 (hd_ 1 9 (by kernel_rfl))
    refine val_ (w1 := w_) (v := .pointer (some ⟨b1, lo * 3, none⟩)) (by rfl) rfl ?_ (hK.out _ _ _ rfl ⟨hI_.1, hI_.2.1, hI_.2.2.1, hI_.2.2.2.1, hI_.2.2.2.2.1, hI_.2.2.2.2.2.1, hI_.2.2.2.2.2.2.1, hI_.2.2.2.2.2.2.2.1, hI_.2.2.2.2.2.2.2.2.1, hI_.2.2.2.2.2.2.2.2.2.1, hI_.2.2.2.2.2.2.2.2.2.2.1, hI_.2.2.2.2.2.2.2.2.2.2.2.1, hI_.2.2.2.2.2.2.2.2.2.2.2.2.1, hI_.2.2.2.2.2.2.2.2.2.2.2.2.2.1, hI_.2.2.2.2.2.2.2.2.2.2.2.2.2.2.1, hI_.2.2.2.2.2.2.2.2.2.2.2.2.2.2.2.1, hI_.2.2.2.2.2.2.2.2.2.2.2.2.2.2.2.2.1, (fun _ => rfl), hI_.2.2.2.2.2.2.2.2.2.2.2.2.2.2.2.2.2.2.1, hI_.2.2.2.2.2.2.2.2.2.2.2.2.2.2.2.2.2.2.2⟩)
    go_simp
    all_goals (first | decide | rfl)
  · -- 15
    have e14 := hI_.2.2.2.2.2.2.2.2.2.2.2.2.2.2.2.2.2.1 (hd_ 1 14 (by kernel_rfl))
    refine val_ (w1 := w_) (v := .pointer (some ⟨b1, lo * 3 + 2, none⟩)) (by rfl) rfl ?_ (hK.out _ _ _ rfl ⟨hI_.1, hI_.2.1, hI_.2.2.1, hI_.2.2.2.1, hI_.2.2.2.2.1, hI_.2.2.2.2.2.1, hI_.2.2.2.2.2.2.1, hI_.2.2.2.2.2.2.2.1, hI_.2.2.2.2.2.2.2.2.1, hI_.2.2.2.2.2.2.2.2.2.1, hI_.2.2.2.2.2.2.2.2.2.2.1, hI_.2.2.2.2.2.2.2.2.2.2.2.1, hI_.2.2.2.2.2.2.2.2.2.2.2.2.1, hI_.2.2.2.2.2.2.2.2.2.2.2.2.2.1, hI_.2.2.2.2.2.2.2.2.2.2.2.2.2.2.1, hI_.2.2.2.2.2.2.2.2.2.2.2.2.2.2.2.1, hI_.2.2.2.2.2.2.2.2.2.2.2.2.2.2.2.2.1, hI_.2.2.2.2.2.2.2.2.2.2.2.2.2.2.2.2.2.1, (fun _ => rfl), hI_.2.2.2.2.2.2.2.2.2.2.2.2.2.2.2.2.2.2.2⟩)
    go_simp
    all_goals (first | decide | rfl)
  · -- 16
    have wG := hI_.1
    have wB := hI_.2.1
    have wF := hI_.2.2.1
    have h0 := hI_.2.2.2.1
    have h1 := hI_.2.2.2.2.1
    have h2 := hI_.2.2.2.2.2.1
    have h3 := hI_.2.2.2.2.2.2.1
    have h4 := hI_.2.2.2.2.2.2.2.1
    have h5 := hI_.2.2.2.2.2.2.2.2.1
    have h6 := hI_.2.2.2.2.2.2.2.2.2.1
    have h7 := hI_.2.2.2.2.2.2.2.2.2.2.1
    have h8 := hI_.2.2.2.2.2.2.2.2.2.2.2.1
    have h9 := hI_.2.2.2.2.2.2.2.2.2.2.2.2.1
    have h10 := hI_.2.2.2.2.2.2.2.2.2.2.2.2.2.1
    have h11 := hI_.2.2.2.2.2.2.2.2.2.2.2.2.2.2.1
    have h12 := hI_.2.2.2.2.2.2.2.2.2.2.2.2.2.2.2.1
    have h13 := hI_.2.2.2.2.2.2.2.2.2.2.2.2.2.2.2.2.1
    have h14 := hI_.2.2.2.2.2.2.2.2.2.2.2.2.2.2.2.2.2.1
    have h15 := hI_.2.2.2.2.2.2.2.2.2.2.2.2.2.2.2.2.2.2.1
    have h16 := hI_.2.2.2.2.2.2.2.2.2.2.2.2.2.2.2.2.2.2.2
    have e15 := h15 (hd_ 1 15 (by kernel_rfl))
    have wB0 : w_.heap[b1]? = some (.cells (RWu EA EC key (bif dn_ 13 then moment else y1) y2) 37 (0, 0)) := by rw [hd0_] at wB; exact wB
    rw [if_pos (by rfl)]
    refine wp_store_part 4 _ _ rfl b1 (lo * 3 + 2) (.bool false) [.bool false] ?_ ?_ rfl (by simp [Value.oneCell']) 37 _ (RWu EA EC key (bif dn_ 13 then moment else y1) false) wB0 (RWu_size _ _ _ _ _ lo 2 HEA.out (by decide)) (by kernel_rfl) (rwbu _ _ _ _ _ _ lo HEA.out) ?_
    · exact e15
    · rfl
    · exact hK.out _ undef _ rfl ⟨((setRow_ne _ _ _ _ HGB.out).trans wG), (setRow_heap _ b1 _ _ _ _ wB0), (wF.set b1 _ HSB.out), h0, h1, h2, h3, h4, h5, h6, h7, h8, h9, h10, h11, h12, h13, h14, h15, (fun _ => trivial)⟩
  intro dn_ X w9 hdn_ hI_
  obtain ⟨wG, wB, wF, h0, h1, h2, h3, h4, h5, h6, h7, h8, h9, h10, h11, h12, h13, h14, h15, h16⟩ := hI_
  rw [hdn_ 13 (by decide), hdn_ 16 (by decide)] at wB
  have K9 := Aside0.mk (And.intro wG (And.intro (show w9.heap[b1]? = some (.cells (RWu EA EC key moment false) 37 (0, 0)) from wB) wF))
  clear wG wB wF h0 h1 h2 h3 h4 h5 h6 h7 h8 h9 h10 h11 h12 h13 h14 h15 h16 hdn_
  go_wp2
  go_end0
  exact ⟨rfl, HEND.out _ K9.out.1 K9.out.2.1 K9.out.2.2⟩
theorem acceptu_c (w : World) (g b : Nat) (es : List S37) (room span : Int) (key : Int) (moment : Int) (H : Tabu w g b es room span) (hS : Riseu es) (hn : es.length ≤ 1000000) (hr1 : 1 ≤ room) (hr2 : room ≤ 1024) :
    Calls Try.prog 37 #[.pointer (some ⟨g, 0, none⟩), .int .u32 key, .int .i64 moment] w fun e w' => e = .returned (.tuple #[]) ∧ ∃ b', Tabu w' g b' (accu es key moment room) room span ∧ (b' = b ∨ w.heap.size ≤ b') ∧ Fr (fun k => k = g ∨ k = b) w w' := by
  cases hh : hasu es key with
  | true => exact acceptu_has w g b es room span key moment H hS hn hr1 hr2 hh
  | false => exact acceptu_new w g b es room span key moment H hS hn hr1 hr2 hh
end Go.Proofs.Ytbifanoiailjoaa.MRatePlays

/- A key asks. -/
namespace Go.Proofs.Ytbifanoiailjoaa.MRatePlays
open Go.RowKit Go.Proofs.YtbifanoiailjoaaW.PrintWords Go.Proofs.YtbifanoiailjoaaW.PrintLast Go.Proofs.YtbifanoiailjoaaW.PrintMore Go.Proofs.Ytbifanoiailjoaa.Base
set_option linter.unusedVariables false
set_option linter.unusedSimpArgs false

def tellu (es : List S37) (key : Int) : List S37 := es.take (lowu es key) ++ { rd_T37 es (lowu es key) with f2 := true } :: es.drop (lowu es key + 1)
/-- The list behind an asking that is answered. -/
def askLu (es : List S37) (key : Int) (moment room span : Int) : List S37 :=
  if ansu es key moment span = 1 then accu es key moment room else if ansu es key moment span = 2 then tellu es key else es
set_option maxHeartbeats 4000000 in
set_option maxRecDepth 100000 in
theorem asku_bad (w : World) (g : Nat) (key : Int) (moment : Int) (h : ¬ (0 ≤ moment ∧ moment ≤ 4611686018427387904)) :
    Calls Try.prog 9 #[.pointer (some ⟨g, 0, none⟩), .int .u32 key, .int .i64 moment] w fun e w' => e = .returned (.tuple #[.int .i64 0, .iface 49 (.int .i64 1)]) ∧ Below w.heap.size w w' := by
  have HA := Aside0.mk (asksu_bad w g moment h)
  clear h
  go_enter Try.func9, Try.ntmps9
  go_wp2_with (first | (go_at_call 35; refine HA.out.mono ?_; rintro e_ w1 ⟨rfl, hb_⟩; have B1 := Aside0.mk hb_; clear hb_) | fail)
  go_ret2
  exact ⟨rfl, B1.out⟩
set_option maxHeartbeats 4000000 in
set_option maxRecDepth 100000 in
theorem asku_acc (w : World) (g b : Nat) (es : List S37) (room span : Int) (key : Int) (moment : Int) (H : Tabu w g b es room span) (hS : Riseu es) (hA : Atsu es) (hn : es.length ≤ 1000000) (hr1 : 1 ≤ room) (hr2 : room ≤ 1024) (h0 : 0 ≤ moment) (h1 : moment ≤ 4611686018427387904) (ha : ansu es key moment span = 1) :
    Calls Try.prog 9 #[.pointer (some ⟨g, 0, none⟩), .int .u32 key, .int .i64 moment] w fun e w' => e = .returned (.tuple #[.int .i64 1, .nilIface]) ∧ ∃ b', Tabu w' g b' (accu es key moment room) room span ∧ (b' = b ∨ w.heap.size ≤ b') ∧ Fr (fun k => k = g ∨ k = b) w w' := by
  have HAS := Aside0.mk (asksu_ok w g moment h0 h1)
  have HAN := Aside0.mk (fun W (hW : Tabu W g b es room span) => answeru_c W g b es room span key moment hW hS hn hA h0 h1)
  rw [ha] at HAN
  have HAC := Aside0.mk (fun W (hW : Tabu W g b es room span) => acceptu_c W g b es room span key moment hW hS hn hr1 hr2)
  have HT := Aside0.mk H
  have HF := Aside0.mk (Fr.refl (fun k => k = g ∨ k = b) w)
  have HSZ := Aside0.mk (Nat.le_refl w.heap.size)
  clear H hS hn hA h0 h1 ha hr1 hr2
  go_enter Try.func9, Try.ntmps9
  go_wp2_with (first | (go_at_call 35; refine HAS.out.mono ?_; rintro e_ w1 ⟨rfl, hb_⟩; have HT := Aside0.mk (HT.out.below hb_); have HF := Aside0.mk (HF.out.below hb_); clear hb_) | (go_at_call 36; refine (HAN.out _ HT.out).mono ?_; rintro e_ w2 ⟨rfl, hb_⟩; have HT := Aside0.mk (HT.out.below hb_); have HF := Aside0.mk (HF.out.below hb_); clear hb_) | (go_at_call 37; refine (HAC.out _ HT.out).mono ?_; rintro e_ w3 ⟨rfl, b', ht_, hb_, hf_⟩; have hb2_ := HF.out.size; have HX := Aside0.mk (show ∃ b', Tabu w3 g b' (accu es key moment room) room span ∧ (b' = b ∨ w.heap.size ≤ b') ∧ Fr (fun k => k = g ∨ k = b) w w3 from ⟨b', ht_, hb_.elim .inl (fun q => .inr (by omega)), HF.out.trans hf_ (fun j hj => .inl hj)⟩); clear ht_ hb_ hf_ hb2_) | fail)
  go_ret2
  exact ⟨rfl, HX.out⟩
theorem ansu_two (es : List S37) (key : Int) (moment span : Int) (h : ansu es key moment span ≠ 1) : hasu es key = true := by
  cases q : hasu es key with
  | true => rfl
  | false =>
    unfold ansu at h
    rw [q] at h
    exact absurd rfl h
set_option maxHeartbeats 4000000 in
set_option maxRecDepth 100000 in
theorem asku_pass (w : World) (g b : Nat) (es : List S37) (room span : Int) (key : Int) (moment : Int) (H : Tabu w g b es room span) (hS : Riseu es) (hA : Atsu es) (hn : es.length ≤ 1000000) (h0 : 0 ≤ moment) (h1 : moment ≤ 4611686018427387904) (ha : ansu es key moment span = 3) :
    Calls Try.prog 9 #[.pointer (some ⟨g, 0, none⟩), .int .u32 key, .int .i64 moment] w fun e w' => e = .returned (.tuple #[.int .i64 3, .nilIface]) ∧ Below w.heap.size w w' := by
  have HAS := Aside0.mk (asksu_ok w g moment h0 h1)
  have HAN := Aside0.mk (fun W (hW : Tabu W g b es room span) => answeru_c W g b es room span key moment hW hS hn hA h0 h1)
  rw [ha] at HAN
  have HT := Aside0.mk H
  clear H hS hn hA h0 h1 ha
  go_enter Try.func9, Try.ntmps9
  go_wp2_with (first | (go_at_call 35; refine HAS.out.mono ?_; rintro e_ w1 ⟨rfl, hb_⟩; have B1 := Aside0.mk hb_; clear hb_) | (go_at_call 36; refine (HAN.out _ (HT.out.below B1.out)).mono ?_; rintro e_ w2 ⟨rfl, hb_⟩; have B2 := Aside0.mk (below_step B1.out hb_); clear hb_) | fail)
  go_ret2
  exact ⟨rfl, B2.out⟩
set_option maxHeartbeats 4000000 in
set_option maxRecDepth 100000 in
theorem asku_tell (w : World) (g b : Nat) (es : List S37) (room span : Int) (key : Int) (moment : Int) (H : Tabu w g b es room span) (hS : Riseu es) (hA : Atsu es) (hn : es.length ≤ 1000000) (h0 : 0 ≤ moment) (h1 : moment ≤ 4611686018427387904) (ha : ansu es key moment span = 2) :
    Calls Try.prog 9 #[.pointer (some ⟨g, 0, none⟩), .int .u32 key, .int .i64 moment] w fun e w' => e = .returned (.tuple #[.int .i64 2, .nilIface]) ∧ Tabu w' g b (tellu es key) room span ∧ Fr (fun k => k = g ∨ k = b) w w' := by
  have hh := ansu_two es key moment span (by rw [ha]; decide)
  have HAS := Aside0.mk (asksu_ok w g moment h0 h1)
  have HAN := Aside0.mk (fun W (hW : Tabu W g b es room span) => answeru_c W g b es room span key moment hW hS hn hA h0 h1)
  rw [ha] at HAN
  have HP := Aside0.mk (fun W (hW : Tabu W g b es room span) => placeu_c W g b es room span key hW hS hn)
  rw [hh] at HP
  have hlt := hasu_lt es key hh
  have htl : tellu es key = es.take (lowu es key) ++ { rd_T37 es (lowu es key) with f2 := true } :: es.drop (lowu es key + 1) := rfl
  have HT := Aside0.mk H
  have HF := Aside0.mk (Fr.refl (fun k => k = g ∨ k = b) w)
  obtain ⟨lo, hlo⟩ : ∃ lo, lowu es key = lo := ⟨_, rfl⟩
  rw [hlo] at HP hlt htl
  have HTL := Aside0.mk htl
  have hltn : (lo : Int) < (es.length : Int) := by omega
  have HLT := Aside0.mk hlt
  clear H hS hn hA h0 h1 ha hh htl hlo hlt
  go_enter Try.func9, Try.ntmps9
  go_upto_region 10 with (first | (go_at_call 35; refine HAS.out.mono ?_; rintro e_ w1 ⟨rfl, hb_⟩; have HT := Aside0.mk (HT.out.below hb_); have HF := Aside0.mk (HF.out.below hb_); clear hb_) | (go_at_call 36; refine (HAN.out _ HT.out).mono ?_; rintro e_ w2 ⟨rfl, hb_⟩; have HT := Aside0.mk (HT.out.below hb_); have HF := Aside0.mk (HF.out.below hb_); clear hb_) | (go_at_call 38; refine (HP.out _ HT.out).mono ?_; rintro e_ w3 ⟨rfl, hb_⟩; have HT := Aside0.mk (HT.out.below hb_); have HF := Aside0.mk (HF.out.below hb_); clear hb_) | fail)
  obtain ⟨sl, hg, hs⟩ := HT.out
  rcases hs with ⟨rfl, h0, _⟩ | ⟨hne, c1, rest, rfl, hr, hl, hc⟩
  · have := HLT.out
    rw [h0] at this
    simp at this
  have hcell : w3.cell? ⟨g, 0, none⟩ = some (.slice (some ⟨b, 0, none⟩) es.length c1) := (blk_cell hg 0).trans rfl
  have hlt := HLT.out
  have hp := partu es lo hlt
  have htl := HTL.out
  obtain ⟨A, hA⟩ : ∃ A, es.take lo = A := ⟨_, rfl⟩
  obtain ⟨C, hC⟩ : ∃ C, es.drop (lo + 1) = C := ⟨_, rfl⟩
  obtain ⟨x, hx⟩ : ∃ x, rd_T37 es lo = x := ⟨_, rfl⟩
  have hAl : (encsu A).length = lo * 3 := by rw [encsu_len, ← hA, List.length_take]; omega
  rw [hA, hC, hx, List.append_assoc, List.singleton_append] at hp
  rw [hA, hC, hx] at htl
  have hlen : (A ++ ({ x with f2 := true } : S37) :: C).length = es.length := by rw [hp]; simp
  rw [hp] at hr hl
  have HR := Aside0.mk (show w3.heap[b]? = some (.cells (RWu (encsu A) (encsu C ++ rest) x.f0 x.f1 x.f2) 37 (0, 0)) from by rw [show _ = _ from hr, RWu_row])
  have HSZ := Aside0.mk (RWu_size (encsu A) (encsu C ++ rest) x.f0 x.f1 x.f2 lo 2 hAl (by decide))
  have HPL := Aside0.mk (rwbu (encsu A) (encsu C ++ rest) x.f0 x.f1 x.f2 true lo hAl)
  have HEND := Aside0.mk (show ∀ W : World, W.heap[g]? = some (.cells #[.slice (some ⟨b, 0, none⟩) es.length c1, .int .i64 room, .int .i64 span] 77 (0, 0)) → W.heap[b]? = some (.cells (RWu (encsu A) (encsu C ++ rest) x.f0 x.f1 true) 37 (0, 0)) → Tabu W g b (tellu es key) room span from fun W k1 k2 => by
    refine ⟨_, k1, .inr ⟨hne, c1, rest, ?_, ?_, ?_, hc⟩⟩
    · rw [htl, hlen]
    · rw [htl]
      show _ = _
      rw [k2, RWu_row]
    · rw [htl, ← hl]
      simp only [List.length_append, encsu_len, List.length_cons])
  have HNE := Aside0.mk hne
  have HG := Aside0.mk hg
  clear hr hl hlen htl hAl hp hlt hc hx hA hC hne hg HT
  go_wp2_with (first | ((with_reducible refine gate_store (t := 4) (p := 43) rfl ?_); refine store_part rfl 4 _ _ rfl rfl b (lo * 3 + 2) (.bool true) [.bool true] rfl rfl rfl (by simp [Value.oneCell']) 37 _ _ HR.out HSZ.out (by kernel_rfl) HPL.out ?_) | fail)
  go_ret2
  exact ⟨rfl, HEND.out _ ((setRow_ne _ _ _ _ HNE.out.symm).trans HG.out) (setRow_heap _ b _ _ _ _ HR.out), HF.out.set b _ (.inl (.inr rfl))⟩
theorem ansu_cases (es : List S37) (key : Int) (moment span : Int) : ansu es key moment span = 1 ∨ ansu es key moment span = 2 ∨ ansu es key moment span = 3 := by
  unfold ansu
  split
  · split
    · exact .inl rfl
    · split
      · exact .inr (.inr rfl)
      · exact .inr (.inl rfl)
  · exact .inl rfl
theorem asku_c (w : World) (g b : Nat) (es : List S37) (room span : Int) (key : Int) (moment : Int) (H : Tabu w g b es room span) (hS : Riseu es) (hA : Atsu es) (hn : es.length ≤ 1000000) (hr1 : 1 ≤ room) (hr2 : room ≤ 1024) (h0 : 0 ≤ moment) (h1 : moment ≤ 4611686018427387904) :
    Calls Try.prog 9 #[.pointer (some ⟨g, 0, none⟩), .int .u32 key, .int .i64 moment] w fun e w' => e = .returned (.tuple #[.int .i64 (ansu es key moment span), .nilIface]) ∧ ∃ b', Tabu w' g b' (askLu es key moment room span) room span ∧ (b' = b ∨ w.heap.size ≤ b') ∧ Fr (fun k => k = g ∨ k = b) w w' := by
  rcases ansu_cases es key moment span with h | h | h
  · have e : askLu es key moment room span = accu es key moment room := by unfold askLu; rw [if_pos h]
    rw [e, h]
    exact asku_acc w g b es room span key moment H hS hA hn hr1 hr2 h0 h1 h
  · have e : askLu es key moment room span = tellu es key := by unfold askLu; rw [h]; rfl
    rw [e, h]
    refine (asku_tell w g b es room span key moment H hS hA hn h0 h1 h).mono ?_
    rintro e_ w' ⟨rfl, ht, hf⟩
    exact ⟨rfl, b, ht, .inl rfl, hf⟩
  · have e : askLu es key moment room span = es := by unfold askLu; rw [h]; rfl
    rw [e, h]
    refine (asku_pass w g b es room span key moment H hS hA hn h0 h1 h).mono ?_
    rintro e_ w' ⟨rfl, hb⟩
    exact ⟨rfl, b, H.below hb, .inl rfl, Fr.ofBelow hb⟩
end Go.Proofs.Ytbifanoiailjoaa.MRatePlays

/- A new table. -/
namespace Go.Proofs.Ytbifanoiailjoaa.MRatePlays
open Go.RowKit Go.Proofs.YtbifanoiailjoaaW.PrintWords Go.Proofs.YtbifanoiailjoaaW.PrintLast Go.Proofs.YtbifanoiailjoaaW.PrintMore Go.Proofs.Ytbifanoiailjoaa.Base
set_option linter.unusedVariables false
set_option linter.unusedSimpArgs false

set_option maxHeartbeats 4000000 in
set_option maxRecDepth 100000 in
theorem newu_bad (w : World) (room span : Int) (h : ¬ (1 ≤ room ∧ room ≤ 1024 ∧ 0 ≤ span ∧ span ≤ 4611686018427387904)) :
    Calls Try.prog 8 #[.int .i64 room, .int .i64 span] w fun e w' => e = .returned (.tuple #[.pointer none, .iface 49 (.int .i64 1)]) ∧ Below w.heap.size w w' := by
  have HFI := Aside0.mk (fun W => fits_bad W room span h)
  clear h
  go_enter Try.func8, Try.ntmps8
  go_wp2_with (first | (go_at_call 34; refine (HFI.out _).mono ?_; rintro e_ w1 ⟨rfl, hb_⟩; have B1 := Aside0.mk hb_; clear hb_) | fail)
  go_ret2
  exact ⟨rfl, B1.out⟩
set_option maxHeartbeats 4000000 in
set_option maxRecDepth 100000 in
theorem newu_ok (w : World) (room span : Int) (h : 1 ≤ room ∧ room ≤ 1024 ∧ 0 ≤ span ∧ span ≤ 4611686018427387904) :
    Calls Try.prog 8 #[.int .i64 room, .int .i64 span] w fun e w' => ∃ g, e = .returned (.tuple #[.pointer (some ⟨g, 0, none⟩), .nilIface]) ∧ Tabu w' g g [] room span ∧ w.heap.size ≤ g ∧ Below w.heap.size w w' := by
  have HFI := Aside0.mk (fun W => fits_ok W room span h)
  clear h
  go_enter Try.func8, Try.ntmps8
  go_upto_region 4 with (first | (go_at_call 34; refine (HFI.out _).mono ?_; rintro e_ w1 ⟨rfl, hb_⟩; have B1 := Aside0.mk hb_; clear hb_) | fail)
  go_wp2_with (first | ((with_reducible refine gate_dst (N := 16) rfl ?_); refine box_event ?hg (N := 16) ?hd (cs := #[.slice none 0 0, .int .i64 room, .int .i64 span]) (t := 77) ?hr ?_; (case hd => rfl); (case hg => rfl); (case hr => go_simp; try rfl); intro gr hg_ wr1 hx_ hb_; have Gr := Aside0.mk hg_; have Hr := Aside0.mk hb_; have Br := Aside0.mk hx_; clear hg_ hx_ hb_; skip) | fail)
  go_ret2
  refine ⟨gr, rfl, ⟨_, Br.out, .inl ⟨rfl, rfl, rfl⟩⟩, ?_, below_step B1.out Hr.out⟩
  have := Gr.out
  have := B1.out.size
  omega
end Go.Proofs.Ytbifanoiailjoaa.MRatePlays

/- What stays true of a table's entries. -/
namespace Go.Proofs.Ytbifanoiailjoaa.MRatePlays
open Go.RowKit Go.Proofs.YtbifanoiailjoaaW.PrintWords Go.Proofs.YtbifanoiailjoaaW.PrintLast Go.Proofs.YtbifanoiailjoaaW.PrintMore Go.Proofs.Ytbifanoiailjoaa.Base
set_option linter.unusedVariables false
set_option linter.unusedSimpArgs false

theorem riseu_keys (es : List S37) : Riseu es ↔ (es.map (·.f0)).Pairwise (fun a b => ltu a b = true) := by
  unfold Riseu
  rw [List.pairwise_map]
theorem keysu_setAt (es : List S37) (key : Int) (m : Int) (h : hasu es key = true) : (setAtu es key m).map (·.f0) = es.map (·.f0) := by
  have hp := partu es _ (hasu_lt es key h)
  have hk := hasu_key es key h
  rw [show (es.map (·.f0)) = ((es.take (lowu es key) ++ [rd_T37 es (lowu es key)] ++ es.drop (lowu es key + 1)).map (·.f0)) from congrArg _ hp]
  unfold setAtu
  simp [hk]
theorem keysu_tell (es : List S37) (key : Int) (h : hasu es key = true) : (tellu es key).map (·.f0) = es.map (·.f0) := by
  have hp := partu es _ (hasu_lt es key h)
  rw [show (es.map (·.f0)) = ((es.take (lowu es key) ++ [rd_T37 es (lowu es key)] ++ es.drop (lowu es key + 1)).map (·.f0)) from congrArg _ hp]
  unfold tellu
  simp
theorem takeu_lt (es : List S37) (key : Int) : ∀ x ∈ es.take (lowu es key), ltu x.f0 key = true := by
  intro x hx
  unfold lowu at hx
  rw [← List.prefix_iff_eq_take.1 (List.takeWhile_prefix _)] at hx
  have h := List.all_takeWhile (p := fun x : S37 => ltu x.f0 key) (l := es)
  exact List.all_eq_true.1 h x hx
theorem at_lowu {α : Type} (p : α → Bool) : ∀ (l : List α) (h : (l.takeWhile p).length < l.length), p l[(l.takeWhile p).length] = false
  | [], h => by simp at h
  | x :: r, h => by
    cases q : p x with
    | false => simp [List.takeWhile_cons, q]
    | true =>
      have h' : (r.takeWhile p).length < r.length := by simpa [List.takeWhile_cons, q] using h
      have := at_lowu p r h'
      simpa [List.takeWhile_cons, q] using this
theorem dropu_gt (es : List S37) (key : Int) (hR : Riseu es) (h : hasu es key = false) : ∀ x ∈ es.drop (lowu es key), ltu key x.f0 = true := by
  intro x hx
  obtain ⟨i, hi, rfl⟩ := List.getElem_of_mem hx
  rw [List.getElem_drop]
  have hlt : lowu es key < es.length := by rw [List.length_drop] at hi; omega
  have hne : ¬ ltu es[lowu es key].f0 key = true := by
    intro q
    have hq : (es.takeWhile (fun x => ltu x.f0 key)).length < es.length := hlt
    have h2 : ltu es[lowu es key].f0 key = false := at_lowu (fun x : S37 => ltu x.f0 key) es hq
    exact absurd (h2.symm.trans q) (by decide)
  have hcp : ¬ cpu es[lowu es key].f0 key = 0 := by
    intro q
    rw [hasu_eq es key _ rfl, rdu_get es _ hlt, q] at h
    simp [hlt] at h
  have h0 : ltu key es[lowu es key].f0 = true := by
    cases q : ltu key es[lowu es key].f0 with
    | true => rfl
    | false =>
      refine absurd ((cpu_zero _ _).2 (ltu_tri _ _ ?_ q)) hcp
      simpa using hne
  rcases Nat.eq_zero_or_pos i with rfl | hi0
  · simpa using h0
  · exact ltu_trans _ _ _ h0 (List.pairwise_iff_getElem.1 hR _ (lowu es key + i) hlt (by rw [List.length_drop] at hi; omega) (by omega))
theorem riseu_putIn (es : List S37) (key : Int) (m : Int) (hR : Riseu es) (h : hasu es key = false) : Riseu (putInu es key m) := by
  unfold putInu Riseu
  have hT := takeu_lt es key
  have hD := dropu_gt es key hR h
  have hR' : Riseu (es.take (lowu es key) ++ es.drop (lowu es key)) := by rw [List.take_append_drop]; exact hR
  have hR2 := List.pairwise_append.1 hR'
  rw [List.pairwise_append]
  refine ⟨hR2.1, List.pairwise_cons.2 ⟨fun y hy => hD y hy, hR2.2.1⟩, fun a ha b hb => ?_⟩
  rcases List.mem_cons.1 hb with rfl | hb
  · exact hT a ha
  · exact hR2.2.2 a ha b hb
theorem memu_setAt {es : List S37} {key : Int} {m : Int} {x : S37} (h : x ∈ setAtu es key m) : x = ⟨key, m, false⟩ ∨ x ∈ es := by
  unfold setAtu at h
  rcases List.mem_append.1 h with h | h
  · exact .inr (List.mem_of_mem_take h)
  · rcases List.mem_cons.1 h with h | h
    · exact .inl h
    · exact .inr (List.mem_of_mem_drop h)
theorem memu_putIn {es : List S37} {key : Int} {m : Int} {x : S37} (h : x ∈ putInu es key m) : x = ⟨key, m, false⟩ ∨ x ∈ es := by
  unfold putInu at h
  rcases List.mem_append.1 h with h | h
  · exact .inr (List.mem_of_mem_take h)
  · rcases List.mem_cons.1 h with h | h
    · exact .inl h
    · exact .inr (List.mem_of_mem_drop h)
theorem lenu_setAt (es : List S37) (key : Int) (m : Int) (h : hasu es key = true) : (setAtu es key m).length = es.length := by
  have := congrArg List.length (keysu_setAt es key m h)
  simpa using this
theorem lenu_tell (es : List S37) (key : Int) (h : hasu es key = true) : (tellu es key).length = es.length := by
  have := congrArg List.length (keysu_tell es key h)
  simpa using this
theorem lenu_putIn (es : List S37) (key : Int) (m : Int) : (putInu es key m).length = es.length + 1 := by
  have := lowu_le es key
  unfold putInu
  rw [List.length_append, List.length_cons, List.length_take, List.length_drop]
  omega
structure Invu (es : List S37) (room : Int) : Prop where
  rise : Riseu es
  ats : Atsu es
  len : (es.length : Int) ≤ room
theorem Invu.nil (room : Int) (h : 1 ≤ room) : Invu [] room := ⟨List.Pairwise.nil, (fun x h => by cases h), (by simp; omega)⟩
theorem invu_acc (es : List S37) (key : Int) (m room : Int) (h : Invu es room) (h1 : 1 ≤ room) (hm0 : 0 ≤ m) (hm1 : m ≤ 4611686018427387904) : Invu (accu es key m room) room := by
  obtain ⟨hR, hA, hL⟩ := h
  unfold accu
  cases hh : hasu es key with
  | true =>
    rw [if_pos rfl]
    refine ⟨(riseu_keys _).2 (by rw [keysu_setAt es key m hh]; exact (riseu_keys _).1 hR), fun x hx => ?_, by rw [lenu_setAt es key m hh]; exact hL⟩
    rcases memu_setAt hx with rfl | hx
    · exact ⟨hm0, hm1⟩
    · exact hA x hx
  | false =>
    rw [if_neg (by decide)]
    have hc := cutu_has (es.length - (room - 1).toNat) es key hR hh
    refine ⟨riseu_putIn _ key m (cutu_rise _ es hR) hc, fun x hx => ?_, ?_⟩
    · rcases memu_putIn hx with rfl | hx
      · exact ⟨hm0, hm1⟩
      · exact hA x ((cutu_sub _ es).subset hx)
    · rw [lenu_putIn, cutu_len _ es hR (by omega)]
      omega
theorem invu_tell (es : List S37) (key : Int) (room : Int) (h : Invu es room) (hh : hasu es key = true) : Invu (tellu es key) room := by
  obtain ⟨hR, hA, hL⟩ := h
  refine ⟨(riseu_keys _).2 (by rw [keysu_tell es key hh]; exact (riseu_keys _).1 hR), fun x hx => ?_, by rw [lenu_tell es key hh]; exact hL⟩
  unfold tellu at hx
  rcases List.mem_append.1 hx with hx | hx
  · exact hA x (List.mem_of_mem_take hx)
  · rcases List.mem_cons.1 hx with rfl | hx
    · have hl := hasu_lt es key hh
      have := hA (rd_T37 es (lowu es key)) (by rw [rdu_get es _ hl]; exact List.getElem_mem _)
      exact this
    · exact hA x (List.mem_of_mem_drop hx)
theorem invu_ask (es : List S37) (key : Int) (m room span : Int) (h : Invu es room) (h1 : 1 ≤ room) (hm0 : 0 ≤ m) (hm1 : m ≤ 4611686018427387904) : Invu (askLu es key m room span) room := by
  unfold askLu
  split
  · exact invu_acc es key m room h h1 hm0 hm1
  · rename_i q
    split
    · exact invu_tell es key room h (ansu_two es key m span q)
    · exact h
end Go.Proofs.Ytbifanoiailjoaa.MRatePlays

/- What is remembered of a key. -/
namespace Go.Proofs.Ytbifanoiailjoaa.MRatePlays
open Go.RowKit Go.Proofs.YtbifanoiailjoaaW.PrintWords Go.Proofs.YtbifanoiailjoaaW.PrintLast Go.Proofs.YtbifanoiailjoaaW.PrintMore Go.Proofs.Ytbifanoiailjoaa.Base
set_option linter.unusedVariables false
set_option linter.unusedSimpArgs false

set_option maxHeartbeats 4000000 in
set_option maxRecDepth 100000 in
theorem entryu_none (w : World) (g b : Nat) (es : List S37) (room span : Int) (key : Int) (H : Tabu w g b es room span) (hS : Riseu es) (hn : es.length ≤ 1000000) (hh : hasu es key = false) :
    Calls Try.prog 11 #[.pointer (some ⟨g, 0, none⟩), .int .u32 key] w fun e w' => e = .returned (.tuple #[.agg #[.int .u32 0, .int .i64 0, .bool false], .bool false]) ∧ Below w.heap.size w w' := by
  have HP := Aside0.mk (fun W (hW : Tabu W g b es room span) => placeu_c W g b es room span key hW hS hn)
  rw [hh] at HP
  have HT := Aside0.mk H
  have HB := Aside0.mk (Below.refl w.heap.size w)
  clear H hS hn hh
  go_enter Try.func11, Try.ntmps11
  go_upto_region 1 with (first | ((with_reducible refine gate_dst (N := 4) rfl ?_); refine box_event ?hg (N := 4) ?hd (cs := #[.int .u32 0, .int .i64 0, .bool false]) (t := 37) ?hr ?_; (case hd => rfl); (case hg => rfl); (case hr => go_simp; try rfl); intro gr hg_ wr1 hx_ hb_; have Gr := Aside0.mk hg_; have Hr := Aside0.mk hb_; have Br := Aside0.mk hx_; clear hg_ hx_ hb_; skip) | fail)
  have PR := Aside0.mk (PH.start HB.out Hr.out Gr.out Br.out)
  clear Gr Hr Br HB
  go_wp2_with (first | (go_at_call 38; refine (HP.out _ (HT.out.below PR.out.bel)).mono ?_; rintro e_ w1 ⟨rfl, hb_⟩; have PR := Aside0.mk (PR.out.below hb_); clear hb_) | ((with_reducible refine gate_store (t := 37) (p := 4) rfl ?_); refine wpList_store_row rfl 37 _ _ rfl gr #[.int .u32 0, .int .i64 0, .bool false] rfl rfl 37 _ PR.out.row (by kernel_rfl) (by rfl) (by simp [Value.oneCell']) ?_) | fail)
  refine bodyPost_ret (results_cell_row_tmp rfl _ _ gr 37 #[.int .u32 0, .int .i64 0, .bool false] (0, 0) _ _ rfl (PR.out.set _).row Try.underlying37 rfl (by kernel_rfl) rfl) rfl ?_
  exact ⟨rfl, (PR.out.set _).bel⟩
set_option maxHeartbeats 4000000 in
set_option maxRecDepth 100000 in
theorem entryu_has (w : World) (g b : Nat) (es : List S37) (room span : Int) (key : Int) (H : Tabu w g b es room span) (hS : Riseu es) (hn : es.length ≤ 1000000) (hh : hasu es key = true) :
    Calls Try.prog 11 #[.pointer (some ⟨g, 0, none⟩), .int .u32 key] w fun e w' => e = .returned (.tuple #[.agg #[.int .u32 (rd_T37 es (lowu es key)).f0, .int .i64 (rd_T37 es (lowu es key)).f1, .bool (rd_T37 es (lowu es key)).f2], .bool true]) ∧ Below w.heap.size w w' := by
  have HP := Aside0.mk (fun W (hW : Tabu W g b es room span) => placeu_c W g b es room span key hW hS hn)
  rw [hh] at HP
  have hlt := hasu_lt es key hh
  have HT := Aside0.mk H
  have HB := Aside0.mk (Below.refl w.heap.size w)
  obtain ⟨lo, hlo⟩ : ∃ lo, lowu es key = lo := ⟨_, rfl⟩
  rw [hlo] at HP hlt ⊢
  obtain ⟨sl, hg, hs⟩ := H
  rcases hs with ⟨rfl, rfl, rfl⟩ | ⟨hne, c, rest, rfl, hr, hl, hc⟩
  · simp at hlt
  have HR := Aside0.mk hr
  have HG := Aside0.mk hg
  have hltn : (lo : Int) < (es.length : Int) := by omega
  have HLT := Aside0.mk hlt
  obtain ⟨x, hx⟩ : ∃ x, rd_T37 es lo = x := ⟨_, rfl⟩
  have HX := Aside0.mk hx
  rw [hx]
  clear hS hn hh hl hc hr hg hlt hx hlo
  go_enter Try.func11, Try.ntmps11
  go_upto_region 1 with (first | ((with_reducible refine gate_dst (N := 4) rfl ?_); refine box_event ?hg (N := 4) ?hd (cs := #[.int .u32 0, .int .i64 0, .bool false]) (t := 37) ?hr ?_; (case hd => rfl); (case hg => rfl); (case hr => go_simp; try rfl); intro gr hg_ wr1 hx_ hb_; have Gr := Aside0.mk hg_; have Hr := Aside0.mk hb_; have Br := Aside0.mk hx_; clear hg_ hx_ hb_; skip) | fail)
  have PR := Aside0.mk (PH.start HB.out Hr.out Gr.out Br.out)
  clear Gr Hr Br HB
  go_upto_region 6 with (first | (go_at_call 38; refine (HP.out _ (HT.out.below PR.out.bel)).mono ?_; rintro e_ w1 ⟨rfl, hb_⟩; have PR := Aside0.mk (PR.out.below hb_); clear hb_) | fail)
  have hcell : w1.cell? ⟨g, 0, none⟩ = some (.slice (some ⟨b, 0, none⟩) es.length c) := (blk_cell (blk_below HG.out PR.out.bel) 0).trans rfl
  have hr1 : Rowu w1 b es rest := blk_below HR.out PR.out.bel
  have s0 := rowu_cell hr1 lo 0 HLT.out _ rfl (by omega)
  have s1 := rowu_cell hr1 lo 1 HLT.out _ rfl (by omega)
  have s2 := rowu_cell hr1 lo 2 HLT.out _ rfl (by omega)
  rw [HX.out] at s0 s1 s2
  have s0' : w1.cell? ⟨b, lo * 3, none⟩ = some (.int .u32 x.f0) := s0
  clear hr1 s0
  go_wp2_with (first | ((with_reducible refine gate_store (t := 37) (p := 4) rfl ?_); refine wpList_store_row rfl 37 _ _ rfl gr #[.int .u32 x.f0, .int .i64 x.f1, .bool x.f2] rfl rfl 37 _ PR.out.row (by kernel_rfl) (by rfl) (by simp [Value.oneCell']) ?_) | fail)
  refine bodyPost_ret (results_cell_row_tmp rfl _ _ gr 37 #[.int .u32 x.f0, .int .i64 x.f1, .bool x.f2] (0, 0) _ _ rfl (PR.out.set _).row Try.underlying37 rfl (by kernel_rfl) rfl) rfl ?_
  exact ⟨rfl, (PR.out.set _).bel⟩
end Go.Proofs.Ytbifanoiailjoaa.MRatePlays

/- All that is remembered, as a row of its own. -/
namespace Go.Proofs.Ytbifanoiailjoaa.MRatePlays
open Go.RowKit Go.Proofs.YtbifanoiailjoaaW.PrintWords Go.Proofs.YtbifanoiailjoaaW.PrintLast Go.Proofs.YtbifanoiailjoaaW.PrintMore Go.Proofs.Ytbifanoiailjoaa.Base
set_option linter.unusedVariables false
set_option linter.unusedSimpArgs false

theorem srcsu (w : World) (b c : Nat) (es : List S37) (rest : List Value) (hr : Rowu w b es rest) (hc : es.length ≤ c) : Src Try.prog 3 43 (.slice (some ⟨b, 0, none⟩) es.length c) es.length (encsu es) w :=
  Src.ofSlice w Try.underlying43 ⟨b, 0, none⟩ es.length c (encsu es) (by rw [encsu_len]; omega) (fun j u hj => rowu_src hr [] es [] (by simp) 0 (by simp) j u hj) (encsu_one es)
theorem dupu (w : World) (b c eb : Nat) (es : List S37) (rest : List Value) (hr : Rowu w b es rest) (hc : es.length ≤ c) (h0 : 0 < es.length) (hn : es.length ≤ 1000000) :
    ∃ (G : Nat) (rest' : List Value), (∀ ty, (Builtin.append_ #[43, 43] ty #[.slice (some ⟨eb, 0, none⟩) 0 0, .slice (some ⟨b, 0, none⟩) es.length c]).run Try.prog w = .ok (.slice (some ⟨w.heap.size, 0, none⟩) es.length G) (w.drew.alloc (.cells (encsu es ++ rest').toArray 37))) ∧ (encsu es ++ rest').length = G * 3 ∧ G ≤ 9223372036854775807 := by
  obtain ⟨i, hi, hz, hs, hby⟩ := infou
  have hold : (Builtin.firstCells 3 0 (.slice (some ⟨eb, 0, none⟩) 0 0)).run Try.prog w.drew = .ok ([] : List Value).toArray w.drew :=
    run_firstCells_some w.drew 3 0 _ 0 0 [] rfl (fun j v hj => by simp at hj)
  have hG1 := grownCap_ge w (0 + es.length) 0 37
  have hG2 := grownCap_le_maxLen w (0 + es.length) 0 37 (by unfold maxLen; omega)
  refine ⟨grownCap w (0 + es.length) 0 37, (Builtin.zeroCells (Value.agg #[.int .u32 0, .int .i64 0, .bool false]).cells (grownCap w (0 + es.length) 0 37 - (0 + es.length))).toList, fun ty => ?_, ?_, by unfold maxLen at hG2; omega⟩
  · have h := run_append_grow_src (P := Try.prog) w 43 43 ty 37 i _ Try.underlying43 hi hz (some ⟨eb, 0, none⟩) 0 0 [] (by rw [hs]; exact hold) _ es.length (encsu es) (by rw [hs]; exact srcsu w b c es rest hr hc) (by omega) (by omega) (by rw [hby]; exact growslice_fits (by omega) (by omega))
    have he : ([] ++ encsu es).toArray ++ Builtin.zeroCells (Value.agg #[.int .u32 0, .int .i64 0, .bool false]).cells (grownCap w (0 + es.length) 0 37 - (0 + es.length)) = (encsu es ++ (Builtin.zeroCells (Value.agg #[.int .u32 0, .int .i64 0, .bool false]).cells (grownCap w (0 + es.length) 0 37 - (0 + es.length))).toList).toArray := by
      apply Array.ext'
      rw [Array.toList_append, List.nil_append]
    rw [h, he, Nat.zero_add]
  · rw [List.length_append, encsu_len, zclu]
    omega
set_option maxHeartbeats 4000000 in
set_option maxRecDepth 100000 in
theorem cloneu_nil (w : World) : Calls Try.prog 39 #[.slice none 0 0] w fun e w' => e = .returned (.slice none 0 0) ∧ Below w.heap.size w w' := by
  have hnil := fun (W : World) (a : Option Addr) (n c n1 c1 : Nat) => Lib.run_eql_slice_nil (P := Try.prog) W 43 37 a n c n1 c1 Try.underlying43
  go_enter Try.func39, Try.ntmps39
  go_wp2
  go_ret
  exact ⟨rfl, Below.refl _ _⟩
set_option maxHeartbeats 4000000 in
set_option maxRecDepth 100000 in
theorem cloneu_empty (w : World) (b c : Nat) : Calls Try.prog 39 #[.slice (some ⟨b, 0, none⟩) 0 c] w fun e w' => ∃ nb, e = .returned (.slice (some ⟨nb, 0, none⟩) 0 0) ∧ w.heap.size ≤ nb ∧ w'.heap[nb]? = some (.cells #[] 37 (0, 0)) ∧ Below w.heap.size w w' := by
  have HN := Aside0.mk (And.intro (blk_new w (.cells #[] 37)) (below_alloc (Below.refl w.heap.size w) (.cells #[] 37)))
  have hrun : ∀ W ty, (Builtin.append_ #[43, 43] ty #[.slice (some ⟨w.heap.size, 0, none⟩) 0 0, .slice (some ⟨b, 0, none⟩) 0 c]).run Try.prog W = .ok (.slice (some ⟨w.heap.size, 0, none⟩) 0 0) W := fun W ty => by
    obtain ⟨i, hi, hz, hs, hby⟩ := infou
    have h := run_append_room_cells W 43 ty 37 i Try.underlying43 hi w.heap.size 0 0 0 ⟨b, 0, none⟩ 0 c [] (by simp) (fun j u hj => by simp at hj) (by simp) (by omega) (fun j hj => by simp at hj) (fun j hj => by simp at hj)
    exact h
  have hnil := fun (W : World) (a : Option Addr) (n c n1 c1 : Nat) => Lib.run_eql_slice_nil (P := Try.prog) W 43 37 a n c n1 c1 Try.underlying43
  go_enter Try.func39, Try.ntmps39
  go_wp2_with (first | ((with_reducible refine gate_dst (N := 7) rfl ?_); refine Lib.wpList_append_run _ rfl _ _ 43 43 rfl _ _ rfl rfl _ _ (hrun _ _) ?_) | fail)
  go_ret
  exact ⟨w.heap.size, rfl, Nat.le_refl _, HN.out.1, HN.out.2⟩
set_option maxHeartbeats 4000000 in
set_option maxRecDepth 100000 in
theorem cloneu_c (w : World) (b c : Nat) (es : List S37) (rest : List Value) (hr : Rowu w b es rest) (hc : es.length ≤ c) (h0 : 0 < es.length) (hn : es.length ≤ 1000000) : Calls Try.prog 39 #[.slice (some ⟨b, 0, none⟩) es.length c] w fun e w' => ∃ nb G rest', e = .returned (.slice (some ⟨nb, 0, none⟩) es.length G) ∧ w.heap.size ≤ nb ∧ Rowu w' nb es rest' ∧ (encsu es ++ rest').length = G * 3 ∧ G ≤ 9223372036854775807 ∧ Below w.heap.size w w' := by
  obtain ⟨G, rest', hrun, hl, hG⟩ := dupu (w.alloc (.cells #[] 37)) b c w.heap.size es rest (blk_alloc hr _) hc h0 hn
  have HL := Aside0.mk (And.intro hl hG)
  obtain ⟨nb, hnb⟩ : ∃ nb, (w.alloc (.cells #[] 37)).heap.size = nb := ⟨_, rfl⟩
  have hfin : w.heap.size ≤ nb ∧ Rowu ((w.alloc (.cells #[] 37)).drew.alloc (.cells (encsu es ++ rest').toArray 37)) nb es rest' ∧ Below w.heap.size w ((w.alloc (.cells #[] 37)).drew.alloc (.cells (encsu es ++ rest').toArray 37)) := by
    subst hnb
    exact ⟨(below_alloc (Below.refl _ _) _).size, blk_new (w.alloc (.cells #[] 37)).drew _, below_alloc (below_drew (below_alloc (Below.refl _ _) _)) _⟩
  have HF := Aside0.mk hfin
  rw [hnb] at hrun
  clear hl hG hfin hnb hr
  have hnil := fun (W : World) (a : Option Addr) (n c n1 c1 : Nat) => Lib.run_eql_slice_nil (P := Try.prog) W 43 37 a n c n1 c1 Try.underlying43
  go_enter Try.func39, Try.ntmps39
  go_wp2_with (first | ((with_reducible refine gate_dst (N := 7) rfl ?_); refine Lib.wpList_append_run _ rfl _ _ 43 43 rfl _ _ rfl rfl _ _ (hrun _) ?_) | fail)
  go_ret
  exact ⟨nb, G, rest', rfl, HF.out.1, HF.out.2.1, HL.out.1, HL.out.2, HF.out.2.2⟩
theorem cloneSlu (w : World) (g b : Nat) (sl : Value) (es : List S37) (hs : Slu w g b sl es) (hg : g < w.heap.size) (hn : es.length ≤ 1000000) : Calls Try.prog 39 #[sl] w fun e w' => ∃ v nb, e = .returned v ∧ Slu w' g nb v es ∧ (nb = g ∨ w.heap.size ≤ nb) ∧ Below w.heap.size w w' := by
  rcases hs with ⟨rfl, rfl, rfl⟩ | ⟨hne, c, rest, rfl, hr, hl, hc⟩
  · refine (cloneu_nil w).mono ?_
    rintro e w' ⟨rfl, hb⟩
    exact ⟨_, b, rfl, .inl ⟨rfl, rfl, rfl⟩, .inl rfl, hb⟩
  · have hlc : es.length ≤ c := by
      rw [List.length_append, encsu_len] at hl
      omega
    rcases Nat.eq_zero_or_pos es.length with h0 | h0
    · obtain rfl := List.length_eq_zero_iff.1 h0
      refine (cloneu_empty w b c).mono ?_
      rintro e w' ⟨nb, rfl, h1, h2, hb⟩
      exact ⟨_, nb, rfl, .inr ⟨by omega, 0, [], rfl, h2, rfl, by decide⟩, .inr h1, hb⟩
    · refine (cloneu_c w b c es rest hr hlc h0 hn).mono ?_
      rintro e w' ⟨nb, G, rest', rfl, h1, h2, h3, h4, hb⟩
      exact ⟨_, nb, rfl, .inr ⟨by omega, G, rest', rfl, h2, h3, h4⟩, .inr h1, hb⟩
set_option maxHeartbeats 4000000 in
set_option maxRecDepth 100000 in
theorem entriesu_c (w : World) (g b : Nat) (es : List S37) (room span : Int) (H : Tabu w g b es room span) (hn : es.length ≤ 1000000) :
    Calls Try.prog 12 #[.pointer (some ⟨g, 0, none⟩)] w fun e w' => ∃ v nb, e = .returned v ∧ Slu w' g nb v es ∧ (nb = g ∨ w.heap.size ≤ nb) ∧ Below w.heap.size w w' := by
  obtain ⟨sl, hg, hs⟩ := H
  have hcell : w.cell? ⟨g, 0, none⟩ = some sl := (blk_cell hg 0).trans rfl
  have HC := Aside0.mk (cloneSlu w g b sl es hs (blk_lt hg) hn)
  clear hg hs hn
  go_enter Try.func12, Try.ntmps12
  go_wp2_with (first | (go_at_call 39; refine HC.out.mono ?_; rintro e_ w1 ⟨v, nb, rfl, hs_, hn_, hb_⟩; have H1 := Aside0.mk (And.intro hs_ (And.intro hn_ hb_)); clear hs_ hn_ hb_) | fail)
  go_ret
  exact ⟨v, nb, rfl, H1.out.1, H1.out.2.1, H1.out.2.2⟩
end Go.Proofs.Ytbifanoiailjoaa.MRatePlays

/- A key asks, at any moment. -/
namespace Go.Proofs.Ytbifanoiailjoaa.MRatePlays
open Go.RowKit Go.Proofs.YtbifanoiailjoaaW.PrintWords Go.Proofs.YtbifanoiailjoaaW.PrintLast Go.Proofs.YtbifanoiailjoaaW.PrintMore Go.Proofs.Ytbifanoiailjoaa.Base
set_option linter.unusedVariables false
set_option linter.unusedSimpArgs false

def ansAu (es : List S37) (key : Int) (m span : Int) : Int := if 0 ≤ m ∧ m ≤ 4611686018427387904 then ansu es key m span else 0
def errAu (m : Int) : Option Int := if 0 ≤ m ∧ m ≤ 4611686018427387904 then none else some 1
def askAu (es : List S37) (key : Int) (m room span : Int) : List S37 := if 0 ≤ m ∧ m ≤ 4611686018427387904 then askLu es key m room span else es
theorem askallu_c (w : World) (g b : Nat) (es : List S37) (room span : Int) (key : Int) (m : Int) (H : Tabu w g b es room span) (hI : Invu es room) (hr1 : 1 ≤ room) (hr2 : room ≤ 1024) :
    Calls Try.prog 9 #[.pointer (some ⟨g, 0, none⟩), .int .u32 key, .int .i64 m] w fun e w' => e = .returned (.tuple #[.int .i64 (ansAu es key m span), errW (errAu m)]) ∧ ∃ b', Tabu w' g b' (askAu es key m room span) room span ∧ (b' = b ∨ w.heap.size ≤ b') ∧ Fr (fun k => k = g ∨ k = b) w w' := by
  unfold ansAu errAu askAu
  by_cases h : 0 ≤ m ∧ m ≤ 4611686018427387904
  · rw [if_pos h, if_pos h, if_pos h]
    exact asku_c w g b es room span key m H hI.rise hI.ats (by have := hI.len; omega) hr1 hr2 h.1 h.2
  · rw [if_neg h, if_neg h, if_neg h]
    refine (asku_bad w g key m h).mono ?_
    rintro e w' ⟨rfl, hb⟩
    exact ⟨rfl, b, H.below hb, .inl rfl, Fr.ofBelow hb⟩
theorem askAu_inv (es : List S37) (key : Int) (m room span : Int) (h : Invu es room) (h1 : 1 ≤ room) : Invu (askAu es key m room span) room := by
  unfold askAu
  split
  · rename_i q
    exact invu_ask es key m room span h h1 q.1 q.2
  · exact h
end Go.Proofs.Ytbifanoiailjoaa.MRatePlays

/- Room and span are set; what a key would be answered. -/
namespace Go.Proofs.Ytbifanoiailjoaa.MRatePlays
open Go.RowKit Go.Proofs.YtbifanoiailjoaaW.PrintWords Go.Proofs.YtbifanoiailjoaaW.PrintLast Go.Proofs.YtbifanoiailjoaaW.PrintMore Go.Proofs.Ytbifanoiailjoaa.Base
set_option linter.unusedVariables false
set_option linter.unusedSimpArgs false

set_option maxHeartbeats 4000000 in
set_option maxRecDepth 100000 in
theorem roomu_c (w : World) (g b : Nat) (es : List S37) (room span : Int) (H : Tabu w g b es room span) : Calls Try.prog 53 #[.pointer (some ⟨g, 0, none⟩)] w fun e w' => e = .returned (.int .i64 room) ∧ Below w.heap.size w w' := by
  obtain ⟨sl, hg, hs⟩ := H
  have hcell : w.cell? ⟨g, 1, none⟩ = some (.int .i64 room) := (blk_cell hg 1).trans rfl
  clear hs hg
  go_enter Try.func53, Try.ntmps53
  go_wp2
  go_ret
  exact ⟨rfl, Below.refl _ _⟩
set_option maxHeartbeats 4000000 in
set_option maxRecDepth 100000 in
theorem spanu_c (w : World) (g b : Nat) (es : List S37) (room span : Int) (H : Tabu w g b es room span) : Calls Try.prog 54 #[.pointer (some ⟨g, 0, none⟩)] w fun e w' => e = .returned (.int .i64 span) ∧ Below w.heap.size w w' := by
  obtain ⟨sl, hg, hs⟩ := H
  have hcell : w.cell? ⟨g, 2, none⟩ = some (.int .i64 span) := (blk_cell hg 2).trans rfl
  clear hs hg
  go_enter Try.func54, Try.ntmps54
  go_wp2
  go_ret
  exact ⟨rfl, Below.refl _ _⟩
set_option maxHeartbeats 4000000 in
set_option maxRecDepth 100000 in
theorem wouldu_bad (w : World) (g : Nat) (key : Int) (moment : Int) (h : ¬ (0 ≤ moment ∧ moment ≤ 4611686018427387904)) :
    Calls Try.prog 50 #[.pointer (some ⟨g, 0, none⟩), .int .u32 key, .int .i64 moment] w fun e w' => e = .returned (.tuple #[.int .i64 0, .iface 49 (.int .i64 1)]) ∧ Below w.heap.size w w' := by
  have HA := Aside0.mk (asksu_bad w g moment h)
  clear h
  go_enter Try.func50, Try.ntmps50
  go_wp2_with (first | (go_at_call 35; refine HA.out.mono ?_; rintro e_ w1 ⟨rfl, hb_⟩; have B1 := Aside0.mk hb_; clear hb_) | fail)
  go_ret2
  exact ⟨rfl, B1.out⟩
set_option maxHeartbeats 4000000 in
set_option maxRecDepth 100000 in
theorem wouldu_ok (w : World) (g b : Nat) (es : List S37) (room span : Int) (key : Int) (moment : Int) (H : Tabu w g b es room span) (hI : Invu es room) (hr2 : room ≤ 1024) (h0 : 0 ≤ moment) (h1 : moment ≤ 4611686018427387904) :
    Calls Try.prog 50 #[.pointer (some ⟨g, 0, none⟩), .int .u32 key, .int .i64 moment] w fun e w' => e = .returned (.tuple #[.int .i64 (ansu es key moment span), .nilIface]) ∧ Below w.heap.size w w' := by
  have HAS := Aside0.mk (asksu_ok w g moment h0 h1)
  have HAN := Aside0.mk (fun W (hW : Tabu W g b es room span) => answeru_c W g b es room span key moment hW hI.rise (by have := hI.len; omega) hI.ats h0 h1)
  have HT := Aside0.mk H
  clear H hI h0 h1
  go_enter Try.func50, Try.ntmps50
  go_wp2_with (first | (go_at_call 35; refine HAS.out.mono ?_; rintro e_ w1 ⟨rfl, hb_⟩; have B1 := Aside0.mk hb_; clear hb_) | (go_at_call 36; refine (HAN.out _ (HT.out.below B1.out)).mono ?_; rintro e_ w2 ⟨rfl, hb_⟩; have B2 := Aside0.mk (below_step B1.out hb_); clear hb_) | fail)
  go_ret2
  exact ⟨rfl, B2.out⟩
theorem wouldu_c (w : World) (g b : Nat) (es : List S37) (room span : Int) (key : Int) (m : Int) (H : Tabu w g b es room span) (hI : Invu es room) (hr2 : room ≤ 1024) :
    Calls Try.prog 50 #[.pointer (some ⟨g, 0, none⟩), .int .u32 key, .int .i64 m] w fun e w' => e = .returned (.tuple #[.int .i64 (ansAu es key m span), errW (errAu m)]) ∧ Below w.heap.size w w' := by
  unfold ansAu errAu
  by_cases h : 0 ≤ m ∧ m ≤ 4611686018427387904
  · rw [if_pos h, if_pos h]
    exact wouldu_ok w g b es room span key m H hI hr2 h.1 h.2
  · rw [if_neg h, if_neg h]
    exact wouldu_bad w g key m h
def Fit (room span : Int) : Prop := 1 ≤ room ∧ room ≤ 1024 ∧ 0 ≤ span ∧ span ≤ 4611686018427387904
set_option maxHeartbeats 4000000 in
set_option maxRecDepth 100000 in
theorem setu_bad (w : World) (g : Nat) (room span : Int) (h : ¬ Fit room span) :
    Calls Try.prog 31 #[.pointer (some ⟨g, 0, none⟩), .int .i64 room, .int .i64 span] w fun e w' => e = .returned (.iface 49 (.int .i64 1)) ∧ Below w.heap.size w w' := by
  have HFI := Aside0.mk (fun W => fits_bad W room span h)
  clear h
  go_enter Try.func31, Try.ntmps31
  go_wp2_with (first | (go_at_call 34; refine (HFI.out _).mono ?_; rintro e_ w1 ⟨rfl, hb_⟩; have B1 := Aside0.mk hb_; clear hb_) | fail)
  go_ret
  exact ⟨rfl, B1.out⟩
set_option maxHeartbeats 4000000 in
set_option maxRecDepth 100000 in
theorem setu_ok (w : World) (g b : Nat) (es : List S37) (room0 span0 room span : Int) (H : Tabu w g b es room0 span0) (hI : Invu es room0) (hr0 : room0 ≤ 1024) (h : Fit room span) :
    Calls Try.prog 31 #[.pointer (some ⟨g, 0, none⟩), .int .i64 room, .int .i64 span] w fun e w' => e = .returned .nilIface ∧ Tabu w' g b (cutu (es.length - room.toNat) es) room span ∧ Fr (fun k => k = g ∨ k = b) w w' := by
  have HFI := Aside0.mk (fun W => fits_ok W room span h)
  obtain ⟨n, rfl⟩ : ∃ n : Nat, room = n := ⟨room.toNat, by have := h.1; omega⟩
  have HTR := Aside0.mk (fun W (hW : Tabu W g b es n span) => trimu_c W g b es n span n hW hI.rise (by have := hI.len; omega))
  rw [Int.toNat_natCast]
  obtain ⟨es2, he2⟩ : ∃ es2, cutu (es.length - n) es = es2 := ⟨_, rfl⟩
  rw [he2] at HTR ⊢
  have HT := Aside0.mk H
  clear H hI h he2
  go_enter Try.func31, Try.ntmps31
  go_upto_region 6 with (first | (go_at_call 34; refine (HFI.out _).mono ?_; rintro e_ w1 ⟨rfl, hb_⟩; have HF := Aside0.mk (Fr.ofBelow (S := fun k => k = g ∨ k = b) hb_); have HT := Aside0.mk (HT.out.below hb_); clear hb_) | fail)
  obtain ⟨sl, hg, hs⟩ := HT.out
  have HG1 := setRow_heap w1 g _ #[sl, .int .i64 (n : Int), .int .i64 span0] _ _ hg
  have HG2 := setRow_heap _ g _ #[sl, .int .i64 (n : Int), .int .i64 span] _ _ HG1
  rw [setRow_row] at HG2
  have HT2 := Aside0.mk (show Tabu (w1.setRow g #[sl, .int .i64 (n : Int), .int .i64 span]) g b es n span from by
    refine ⟨sl, HG2, ?_⟩
    rcases hs with h | ⟨hn, c, rest, e, hr, hl, hc⟩
    · exact .inl h
    · exact .inr ⟨hn, c, rest, e, (setRow_ne _ _ _ _ hn).trans hr, hl, hc⟩)
  have HF2 := Aside0.mk (HF.out.set g #[sl, .int .i64 (n : Int), .int .i64 span] (.inl (.inl rfl)))
  have HGA := Aside0.mk hg
  have HGB := Aside0.mk HG1
  clear hs hg HG1 HG2 HT HF
  go_upto_region 7 with (first | ((with_reducible refine gate_store (t := 3) (p := 22) rfl ?_); refine store_part rfl 3 _ _ rfl rfl g 1 (.int .i64 (n : Int)) [.int .i64 (n : Int)] rfl rfl rfl (by simp [Value.oneCell']) 77 _ #[sl, .int .i64 (n : Int), .int .i64 span0] HGA.out (by simp) (by kernel_rfl) (by rfl) ?_) | ((with_reducible refine gate_store (t := 2) (p := 24) rfl ?_); refine store_part rfl 2 _ _ rfl rfl g 2 (.int .i64 span) [.int .i64 span] rfl rfl rfl (by simp [Value.oneCell']) 77 _ #[sl, .int .i64 (n : Int), .int .i64 span] HGB.out (by simp) (by kernel_rfl) (by rfl) ?_; rw [setRow_row]) | fail)
  clear HGA HGB
  generalize w1.setRow g #[sl, .int .i64 (n : Int), .int .i64 span] = w2 at HT2 HF2 ⊢
  go_wp2_with (first | (go_at_call 49; refine (HTR.out _ HT2.out).mono ?_; rintro e_ w3 ⟨rfl, ht_, hf_⟩; have HT := Aside0.mk ht_; have HF := Aside0.mk (HF2.out.trans hf_ (fun j hj => .inl hj)); clear ht_ hf_) | fail)
  go_ret
  exact ⟨rfl, HT.out, HF.out⟩
end Go.Proofs.Ytbifanoiailjoaa.MRatePlays

