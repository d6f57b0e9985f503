/- The time service's bytes in plain Lean. -/
import Derived.Test.YtlaaofbmnaekoaaClientBegin
namespace Go.Proofs.Ytlaaofbmnaekoaa.MWholeClient
open Go.RowKit Go.Proofs.YtlaaofbmnaekoaaW.PrintWords Go.Proofs.YtlaaofbmnaekoaaW.PrintLast Go.Proofs.YtlaaofbmnaekoaaW.PrintMore Go.Proofs.Ytlaaofbmnaekoaa.Base
set_option linter.unusedVariables false
set_option linter.unusedSimpArgs false

def B32 (x : Int) : Prop := 0 ≤ x ∧ x < 4294967296
/-- A number's bytes, the great one first. -/
def BE : Nat → Int → List Int
  | 0, _ => []
  | m + 1, v => (v / 256 ^ m) % 256 :: BE m v
theorem BE_length : ∀ m v, (BE m v).length = m
  | 0, _ => rfl
  | m + 1, v => by simp [BE, BE_length m v]
theorem shr8 (x : Int) (j : Nat) (hj : j < 8) : shr .u64 x (wrap64 (8 * (j : Int))) = x / 256 ^ j := by
  have e : wrap64 (8 * (j : Int)) = ((8 * j : Nat) : Int) := by unfold wrap64; omega
  rw [e]
  unfold shr
  rw [Int.toNat_natCast, Nat.min_eq_left (by show 8 * j ≤ 64; omega), Int.pow_mul]
  rfl
theorem size32_is : Ev (fun k => octets_Size_uint32.f k) 4 := Ev.of (fun k => octets_Size_uint32.mono k) (k := 20) (by kernel_rfl)
theorem put_uint32_inner {s x n i : Int} {xs : List Int} {r : List Int} (hx : 0 ≤ x ∧ x < 18446744073709551616) : ∀ (j : Nat) (l : List Int), j < 8 → l.length + j < 70368744177664 → Ev (fun k => octets_Put_uint32.l0 k s (l ++ BE (j + 1) x) xs n (wrap64 (i + 1))) r →
    Ev (fun k => octets_Put_uint32.l1 k s l x (j : Int) xs n i) r := by
  have hw : IntKind.u64.wrap x = x := by rw [wrap_u64]; omega
  intro j
  induction j with
  | zero =>
    intro l hj hl h
    have e := shr8 x 0 hj
    refine Ev.up ?_
    simp only [octets_Put_uint32.l1]
    refine Ev.pos (by omega) (Ev.pos (by unfold wrap64; omega) (Ev.pos (by omega) ?_))
    try rw [hw]
    rw [e, show wrap64 (((0 : Nat) : Int) - 1) = -1 by unfold wrap64; omega]
    refine Ev.up ?_
    simp only [octets_Put_uint32.l1]
    exact Ev.neg (by decide) h
  | succ j ih =>
    intro l hj hl h
    have e := shr8 x (j + 1) hj
    refine Ev.up ?_
    simp only [octets_Put_uint32.l1]
    refine Ev.pos (by omega) (Ev.pos (by unfold wrap64; omega) (Ev.pos (by omega) ?_))
    try rw [hw]
    rw [e, show wrap64 (((j + 1 : Nat) : Int) - 1) = (j : Int) by unfold wrap64; omega]
    refine ih _ (by omega) (by simp; omega) ?_
    rw [List.append_assoc]
    exact h
theorem b64 {x : Int} (h : B32 x) : 0 ≤ x ∧ x < 18446744073709551616 := by unfold B32 at h; omega
theorem or_join64 {x y : Int} {s : Nat} (hs : s ≤ 64) (h0 : 0 ≤ x) (h1 : x < 18446744073709551616) (hm : x % 2 ^ s = 0) (g0 : 0 ≤ y) (g1 : y < 2 ^ s) : Go.bits .or .u64 x y = x + y :=
  bits_join .u64 64 (by simp [IntKind.bits]) (fun m a b => by rw [wrap_u64]; omega) s x y h0 hm h1 g0 g1 (Int.lt_of_lt_of_le g1 (pow_le_of hs))
theorem or_byte64 {x y : Int} (hx : 0 ≤ x ∧ x < 72057594037927936) (hy : 0 ≤ y ∧ y ≤ 255) : Go.bits .or .u64 (IntKind.u64.wrap (x * 256)) (IntKind.u64.wrap y) = x * 256 + y := by
  rw [wrap_u64, wrap_u64, show x * 256 % 18446744073709551616 = x * 256 by omega, show y % 18446744073709551616 = y by omega]
  exact or_join64 (s := 8) (by decide) (by omega) (by omega) (by show x * 256 % 256 = 0; omega) (by omega) (by show y < 256; omega)
theorem BE4 (x : Int) : BE 4 x = [x / 16777216 % 256, x / 65536 % 256, x / 256 % 256, x % 256] := by
  simp only [BE]
  rw [show (256 : Int) ^ 3 = 16777216 from by decide, show (256 : Int) ^ 2 = 65536 from by decide, show (256 : Int) ^ 1 = 256 from by decide, show (256 : Int) ^ 0 = 1 from by decide, Int.ediv_one]
theorem word32_is {a b c d : Int} (ha : 0 ≤ a ∧ a ≤ 255) (hb : 0 ≤ b ∧ b ≤ 255) (hc : 0 ≤ c ∧ c ≤ 255) (hd : 0 ≤ d ∧ d ≤ 255) : Ev (fun k => octets_word_uint32.f k [a, b, c, d]) (((a * 256 + b) * 256 + c) * 256 + d) := by
  show Ev (fun k => octets_word_uint32.l0 k 0 [a, b, c, d] 4 0) _
  refine Ev.up ?_
  simp only [octets_word_uint32.l0]
  refine Ev.pos (by decide) (Ev.pos (by decide) (Ev.pos (by simp) ?_))
  rw [show rd [a, b, c, d] 0 = a from rfl, or_byte64 (by omega) ha, show wrap64 (0 + 1) = 1 by unfold wrap64; omega]
  refine Ev.up ?_
  simp only [octets_word_uint32.l0]
  refine Ev.pos (by decide) (Ev.pos (by decide) (Ev.pos (by simp) ?_))
  rw [show rd [a, b, c, d] 1 = b from rfl, or_byte64 (by omega) hb, show wrap64 (1 + 1) = 2 by unfold wrap64; omega]
  refine Ev.up ?_
  simp only [octets_word_uint32.l0]
  refine Ev.pos (by decide) (Ev.pos (by decide) (Ev.pos (by simp) ?_))
  rw [show rd [a, b, c, d] 2 = c from rfl, or_byte64 (by omega) hc, show wrap64 (2 + 1) = 3 by unfold wrap64; omega]
  refine Ev.up ?_
  simp only [octets_word_uint32.l0]
  refine Ev.pos (by decide) (Ev.pos (by decide) (Ev.pos (by simp) ?_))
  rw [show rd [a, b, c, d] 3 = d from rfl, or_byte64 (by omega) hd, show wrap64 (3 + 1) = 4 by unfold wrap64; omega]
  refine Ev.up ?_
  simp only [octets_word_uint32.l0]
  refine Ev.neg (by decide) ?_
  rw [show ((((0 * 256 + a) * 256 + b) * 256 + c) * 256 + d) % 4294967296 = ((a * 256 + b) * 256 + c) * 256 + d by omega]
  exact Ev.now _
theorem wordBE {x : Int} (h : B32 x) : Ev (fun k => octets_word_uint32.f k (BE 4 x)) x := by
  rw [BE4]
  unfold B32 at h
  exact Ev.cast (word32_is (a := x / 16777216 % 256) (b := x / 65536 % 256) (c := x / 256 % 256) (d := x % 256) (by omega) (by omega) (by omega) (by omega)) (by omega)
theorem two_put {a b : Int} (ha : B32 a) (hb : B32 b) : Ev (fun k => stamp_Bytes.f k a b) (BE 4 a ++ BE 4 b) := by
  unfold stamp_Bytes.f
  refine Ev.bind (a := BE 4 a ++ BE 4 b) ?_ (Ev.now _)
  unfold octets_Put_uint32.f
  refine Ev.bind size32_is ?_
  have hcl : slices_Clone_byte_byte.f [] = some [] := by unfold slices_Clone_byte_byte.f; rw [if_pos (by decide)]
  refine Ev.bindc hcl (Ev.up ?_)
  simp only [octets_Put_uint32.l0]
  refine Ev.pos (by simp) (Ev.pos (by decide) (Ev.pos (by simp) ?_))
  rw [show rd [a, b] 0 = a from rfl, show wrap64 (4 - 1) = ((3 : Nat) : Int) by unfold wrap64; omega]
  refine put_uint32_inner (b64 ha) 3 _ (by decide) (by simp) ?_
  rw [show wrap64 (0 + 1) = 1 by unfold wrap64; omega]
  refine Ev.up ?_
  simp only [octets_Put_uint32.l0]
  refine Ev.pos (by simp) (Ev.pos (by decide) (Ev.pos (by simp) ?_))
  rw [show rd [a, b] 1 = b from rfl, show wrap64 (4 - 1) = ((3 : Nat) : Int) by unfold wrap64; omega]
  refine put_uint32_inner (b64 hb) 3 _ (by decide) (by simp [BE_length]) ?_
  rw [show wrap64 (1 + 1) = 2 by unfold wrap64; omega]
  refine Ev.up ?_
  simp only [octets_Put_uint32.l0]
  refine Ev.neg (by simp) ?_
  rw [show ([] ++ BE (3 + 1) a ++ BE (3 + 1) b : List Int) = BE 4 a ++ BE 4 b by simp]
  exact Ev.now _
theorem two_len (a b : Int) : (BE 4 a ++ BE 4 b).length = 8 := by simp [BE_length]
theorem two_get {a b : Int} (ha : B32 a) (hb : B32 b) : Ev (fun k => stamp_Parse.f k (BE 4 a ++ BE 4 b)) (a, b, none) := by
  unfold stamp_Parse.f
  refine Ev.bind (a := (a, b, none)) ?_ (Ev.now _)
  unfold stamp_two_uint32.f
  refine Ev.bind (a := ([a, b], none)) ?_ ?_
  · unfold octets_List_uint32.f
    refine Ev.bind size32_is ?_
    refine Ev.pos ⟨rfl, by rw [two_len]; omega⟩ (Ev.neg (by decide) (Ev.neg (by rw [two_len]; decide) (Ev.neg (by decide) (Ev.neg (by rw [two_len]; decide) ?_))))
    refine Ev.bind (a := [a, b]) ?_ (Ev.now _)
    have t0 : ((((BE 4 a ++ BE 4 b).drop (0 : Int).toNat).drop (0 * 4)).take 4) = BE 4 a := by rw [BE4, BE4]; rfl
    have t1 : ((((BE 4 a ++ BE 4 b).drop (0 : Int).toNat).drop (1 * 4)).take 4) = BE 4 b := by rw [BE4, BE4]; rfl
    show Ev (fun k => octets_List_uint32.go k ((BE 4 a ++ BE 4 b).drop (0 : Int).toNat) 2) _
    simp only [octets_List_uint32.go, t0, t1]
    refine Ev.bind (a := [a]) ?_ (Ev.bind (wordBE hb) (Ev.now _))
    refine Ev.bind (a := []) (Ev.now _) (Ev.bind (wordBE ha) (Ev.now _))
  · refine Ev.pos rfl (Ev.bind size32_is (Ev.pos (by rw [two_len]; unfold wrap64; omega) (Ev.pos (by simp) (Ev.pos (by simp) (Ev.now _)))))
theorem cut_is (l : List Int) (h : l.length = 48) : Ev (fun k => octets_Cut.f k l 0 48) (l, none) := by
  unfold octets_Cut.f
  refine Ev.bind (a := (l, none)) ?_ ?_
  · unfold octets_from.f
    refine Ev.neg (by decide) (Ev.neg (by omega) (Ev.up ?_))
    simp only [octets_from.j0]
    rw [h]
    rw [show wrap64 (((48 : Nat) : Int) - 0) = 48 by unfold wrap64; omega, show wrap64 (0 + 48) = 48 by unfold wrap64; omega]
    refine Ev.neg (by decide) (Ev.neg (by decide) (Ev.pos (by decide) (Ev.pos (by decide) (Ev.pos (by decide) (Ev.cast (Ev.now _) ?_)))))
    rw [show ((48 : Int)).toNat = 48 from rfl, List.take_of_length_le (by omega)]
    rfl
  · refine Ev.pos rfl (Ev.bindc (a := l) ?_ (Ev.now _))
    unfold slices_Clone_byte_byte.f
    simp only
    rw [if_pos (by omega)]
theorem first_is (b : Int) (r : List Int) (hb : 0 ≤ b ∧ b ≤ 255) (h : r.length < 1000) : Ev (fun k => head_First.f k (b :: r)) (wrap64 (b / 64), wrap64 (Go.bits .and .u8 (b / 8) 7), wrap64 (Go.bits .and .u8 b 7), none) := by
  unfold head_First.f
  refine Ev.bind (a := (b, none)) ?_ (Ev.pos rfl (Ev.now _))
  unfold octets_Get_uint8.f
  refine Ev.bind (Ev.of (fun k => octets_Size_uint8.mono k) (k := 20) (r := 1) (by kernel_rfl)) ?_
  refine Ev.bind (a := ([b], none)) ?_ ?_
  · unfold octets_from.f
    refine Ev.neg (by decide) (Ev.neg (by simp; omega) (Ev.up ?_))
    simp only [octets_from.j0]
    refine Ev.neg (by decide) (Ev.neg ?_ (Ev.pos (by decide) (Ev.pos (by unfold wrap64; omega) (Ev.pos ?_ (Ev.cast (Ev.now _) ?_)))))
    · rw [wr (by simp only [List.length_cons]; omega)]; simp only [List.length_cons]; omega
    · rw [show wrap64 (0 + 1) = 1 by unfold wrap64; omega]; simp only [List.length_cons]; omega
    · rw [show wrap64 (0 + 1) = 1 by unfold wrap64; omega]; rfl
  · refine Ev.pos rfl (Ev.bind (a := b) ?_ (Ev.now _))
    show Ev (fun k => octets_word_uint8.l0 k 0 [b] 1 0) _
    refine Ev.up ?_
    simp only [octets_word_uint8.l0]
    refine Ev.pos (by decide) (Ev.pos (by decide) (Ev.pos (by simp) ?_))
    rw [show rd [b] 0 = b from rfl, or_byte64 (by omega) (by omega), show wrap64 (0 + 1) = 1 by unfold wrap64; omega]
    refine Ev.up ?_
    simp only [octets_word_uint8.l0]
    exact Ev.neg (by decide) (Ev.cast (Ev.now _) (by omega))
end Go.Proofs.Ytlaaofbmnaekoaa.MWholeClient
