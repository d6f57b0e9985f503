/-
  SHA-1: bytes of words and back, and the document's step, in plain Lean.
-/
import Derived.Test.YtjffbdgidddbjaaShaStep
namespace Go.Proofs.Ytjffbdgidddbjaa
set_option linter.unusedVariables false
set_option linter.unusedSimpArgs false
set_option linter.unnecessarySimpa false
open Go.RowKit Go.Proofs.YtjffbdgidddbjaaW.PrintWords Go.Proofs.YtjffbdgidddbjaaW.PrintLast Go.Proofs.YtjffbdgidddbjaaW.PrintMore Go.Proofs.Ytjffbdgidddbjaa.MSha1Sums Go.Proofs.Ytjffbdgidddbjaa.Base
/-- A number's bytes, the great one first. -/
def BE : Nat → Int → List Int
  | 0, _ => []
  | m + 1, v => (v / 256 ^ m) % 256 :: BE m v
theorem BE_length : ∀ m v, (BE m v).length = m
  | 0, _ => rfl
  | m + 1, v => by simp [BE, BE_length m v]
theorem BE_bytes : ∀ m v, Bytes (BE m v)
  | 0, _ => fun _ h => by cases h
  | m + 1, v => fun x hx => by
    rcases List.mem_cons.1 hx with rfl | h
    · unfold Byte; omega
    · exact BE_bytes m v x h
theorem shr8 (x : Int) (j : Nat) (hj : j < 8) : shr .u64 x (wrap64 (8 * (j : Int))) = x / 256 ^ j := by
  have e : wrap64 (8 * (j : Int)) = ((8 * j : Nat) : Int) := by unfold wrap64; omega
  rw [e]
  unfold shr
  rw [Int.toNat_natCast, Nat.min_eq_left (by show 8 * j ≤ 64; omega), Int.pow_mul]
  rfl
theorem size32_is : Ev (fun k => octets_Size_uint32.f k) 4 := Ev.of (fun k => octets_Size_uint32.mono k) (k := 20) (by kernel_rfl)
theorem size64_is : Ev (fun k => octets_Size_uint64.f k) 8 := Ev.of (fun k => octets_Size_uint64.mono k) (k := 20) (by kernel_rfl)
theorem put_uint32_inner {s x n i : Int} {xs : List Int} {r : List Int} (hx : 0 ≤ x ∧ x < 18446744073709551616) : ∀ (j : Nat) (l : List Int), j < 8 → l.length + j < 70368744177664 → Ev (fun k => octets_Put_uint32.l0 k s (l ++ BE (j + 1) x) xs n (wrap64 (i + 1))) r →
    Ev (fun k => octets_Put_uint32.l1 k s l x (j : Int) xs n i) r := by
  have hw : IntKind.u64.wrap x = x := by rw [wrap_u64]; omega
  intro j
  induction j with
  | zero =>
    intro l hj hl h
    have e := shr8 x 0 hj
    refine Ev.up ?_
    simp only [octets_Put_uint32.l1]
    refine Ev.pos (by omega) (Ev.pos (by unfold wrap64; omega) (Ev.pos (by omega) ?_))
    try rw [hw]
    rw [e, show wrap64 (((0 : Nat) : Int) - 1) = -1 by unfold wrap64; omega]
    refine Ev.up ?_
    simp only [octets_Put_uint32.l1]
    exact Ev.neg (by decide) h
  | succ j ih =>
    intro l hj hl h
    have e := shr8 x (j + 1) hj
    refine Ev.up ?_
    simp only [octets_Put_uint32.l1]
    refine Ev.pos (by omega) (Ev.pos (by unfold wrap64; omega) (Ev.pos (by omega) ?_))
    try rw [hw]
    rw [e, show wrap64 (((j + 1 : Nat) : Int) - 1) = (j : Int) by unfold wrap64; omega]
    refine ih _ (by omega) (by simp; omega) ?_
    rw [List.append_assoc]
    exact h
theorem put_uint32_is {l : List Int} {p : Int} (hp : 0 ≤ p ∧ p < 18446744073709551616) (hl : l.length < 35184372088832) : Ev (fun k => octets_Put_uint32.f k l [p]) (l ++ BE 4 p) := by
  unfold octets_Put_uint32.f
  refine Ev.bind size32_is ?_
  have hcl : slices_Clone_byte_byte.f l = some l := by unfold slices_Clone_byte_byte.f; rw [if_pos (by omega)]
  refine Ev.bindc hcl (Ev.up ?_)
  simp only [octets_Put_uint32.l0]
  refine Ev.pos (by simp) (Ev.pos (by decide) (Ev.pos (by simp) ?_))
  rw [show rd [p] 0 = p from rfl, show wrap64 (4 - 1) = ((3 : Nat) : Int) by unfold wrap64; omega]
  refine put_uint32_inner hp 3 l (by decide) (by omega) ?_
  rw [show wrap64 (0 + 1) = 1 by unfold wrap64; omega]
  refine Ev.up ?_
  simp only [octets_Put_uint32.l0]
  exact Ev.neg (by simp) (Ev.now _)
theorem put_uint64_inner {s x n i : Int} {xs : List Int} {r : List Int} (hx : 0 ≤ x ∧ x < 18446744073709551616) : ∀ (j : Nat) (l : List Int), j < 8 → l.length + j < 70368744177664 → Ev (fun k => octets_Put_uint64.l0 k s (l ++ BE (j + 1) x) xs n (wrap64 (i + 1))) r →
    Ev (fun k => octets_Put_uint64.l1 k s l x (j : Int) xs n i) r := by
  have hw : IntKind.u64.wrap x = x := by rw [wrap_u64]; omega
  intro j
  induction j with
  | zero =>
    intro l hj hl h
    have e := shr8 x 0 hj
    refine Ev.up ?_
    simp only [octets_Put_uint64.l1]
    refine Ev.pos (by omega) (Ev.pos (by unfold wrap64; omega) (Ev.pos (by omega) ?_))
    try rw [hw]
    rw [e, show wrap64 (((0 : Nat) : Int) - 1) = -1 by unfold wrap64; omega]
    refine Ev.up ?_
    simp only [octets_Put_uint64.l1]
    exact Ev.neg (by decide) h
  | succ j ih =>
    intro l hj hl h
    have e := shr8 x (j + 1) hj
    refine Ev.up ?_
    simp only [octets_Put_uint64.l1]
    refine Ev.pos (by omega) (Ev.pos (by unfold wrap64; omega) (Ev.pos (by omega) ?_))
    try rw [hw]
    rw [e, show wrap64 (((j + 1 : Nat) : Int) - 1) = (j : Int) by unfold wrap64; omega]
    refine ih _ (by omega) (by simp; omega) ?_
    rw [List.append_assoc]
    exact h
theorem put_uint64_is {l : List Int} {p : Int} (hp : 0 ≤ p ∧ p < 18446744073709551616) (hl : l.length < 35184372088832) : Ev (fun k => octets_Put_uint64.f k l [p]) (l ++ BE 8 p) := by
  unfold octets_Put_uint64.f
  refine Ev.bind size64_is ?_
  have hcl : slices_Clone_byte_byte.f l = some l := by unfold slices_Clone_byte_byte.f; rw [if_pos (by omega)]
  refine Ev.bindc hcl (Ev.up ?_)
  simp only [octets_Put_uint64.l0]
  refine Ev.pos (by simp) (Ev.pos (by decide) (Ev.pos (by simp) ?_))
  rw [show rd [p] 0 = p from rfl, show wrap64 (8 - 1) = ((7 : Nat) : Int) by unfold wrap64; omega]
  refine put_uint64_inner hp 7 l (by decide) (by omega) ?_
  rw [show wrap64 (0 + 1) = 1 by unfold wrap64; omega]
  refine Ev.up ?_
  simp only [octets_Put_uint64.l0]
  exact Ev.neg (by simp) (Ev.now _)
theorem rnumber_l (n : Int) (hn : 0 ≤ n ∧ n < 18446744073709551616) : ∀ (i j : Nat), i + j ≤ 8 → Ev (fun k => horologeref03_Number.l0 k (n / 256 ^ j) (List.replicate i 0 ++ BE j n) ((i : Int) - 1)) (BE (i + j) n)
  | 0, j, h => by
    refine Ev.up ?_
    simp only [horologeref03_Number.l0]
    exact Ev.neg (by omega) (Ev.cast (Ev.now _) (by simp))
  | i + 1, j, h => by
    have ih := rnumber_l n hn i (j + 1) (by omega)
    have hp : (0 : Int) < 256 ^ j := Int.pow_pos (by decide)
    have h0 : 0 ≤ n / 256 ^ j := Int.ediv_nonneg hn.1 (Int.le_of_lt hp)
    have h1 : n / 256 ^ j < 18446744073709551616 := Int.lt_of_le_of_lt (Int.ediv_le_self _ hn.1) hn.2
    have e1 : IntKind.u64.wrap (Int.tdiv (n / 256 ^ j) 256) = n / 256 ^ (j + 1) := by
      rw [Int.tdiv_eq_ediv_of_nonneg h0, wrap_u64, Int.pow_succ, ← Int.ediv_ediv_of_nonneg (Int.le_of_lt hp)]
      omega
    have e2 : (Int.tmod (n / 256 ^ j) 256) % 256 = (n / 256 ^ j) % 256 := by
      rw [Int.tmod_eq_emod_of_nonneg h0]
      omega
    have e3 : (((i + 1 : Nat) : Int) - 1).toNat = i := by omega
    have e4 : wrap64 (((i + 1 : Nat) : Int) - 1 - 1) = (i : Int) - 1 := by rw [wrap64_id (by unfold I64; omega)]; omega
    have e5 : (List.replicate (i + 1) (0 : Int) ++ BE j n).set i ((n / 256 ^ j) % 256) = List.replicate i 0 ++ BE (j + 1) n := by
      rw [List.replicate_succ', List.append_assoc, List.set_append_right _ _ (by simp)]
      simp [BE]
    refine Ev.up ?_
    simp only [horologeref03_Number.l0]
    refine Ev.pos (by omega) (Ev.pos (by omega) (Ev.pos (by simp only [List.length_append, List.length_replicate]; omega) ?_))
    rw [e1, e2, e3, e4, e5]
    exact Ev.cast ih (by rw [show i + (j + 1) = i + 1 + j by omega])
theorem rnum_e {n : Int} (hn : 0 ≤ n ∧ n < 18446744073709551616) {m : Nat} (hm : m ≤ 8) {y : Int} (hy : y = (m : Int)) : Ev (fun k => horologeref03_Number.f k n y) (BE m n) := by
  subst hy
  have h := rnumber_l n hn m 0 (by omega)
  unfold horologeref03_Number.f
  refine Ev.pos (by omega) (Ev.pos (by omega) ?_)
  rw [wrap64_id (by unfold I64; omega), Int.toNat_natCast]
  simpa [BE] using h
def U5 (s : St) : Prop := B32 s.1 ∧ B32 s.2.1 ∧ B32 s.2.2.1 ∧ B32 s.2.2.2.1 ∧ B32 s.2.2.2.2
def PB (s : St) : List Int := BE 4 s.1 ++ (BE 4 s.2.1 ++ (BE 4 s.2.2.1 ++ (BE 4 s.2.2.2.1 ++ BE 4 s.2.2.2.2)))
theorem PB_length (s : St) : (PB s).length = 20 := by simp [PB, BE_length]
theorem PB_bytes (s : St) : Bytes (PB s) := by
  intro x hx
  simp only [PB, List.mem_append] at hx
  rcases hx with h | h | h | h | h <;> exact BE_bytes _ _ x h
theorem b64 {x : Int} (h : B32 x) : 0 ≤ x ∧ x < 18446744073709551616 := by unfold B32 at h; omega
theorem put5_is (s : St) (h : U5 s) : Ev (fun k => octets_Put_uint32.f k [] (L5 s)) (PB s) := by
  obtain ⟨a, b, c, d, e⟩ := s
  obtain ⟨ha, hb, hc, hd, he⟩ := h
  unfold octets_Put_uint32.f
  refine Ev.bind size32_is ?_
  have hcl : slices_Clone_byte_byte.f [] = some [] := by unfold slices_Clone_byte_byte.f; rw [if_pos (by decide)]
  refine Ev.bindc hcl (Ev.up ?_)
  simp only [octets_Put_uint32.l0, L5]
  refine Ev.pos (by simp) (Ev.pos (by decide) (Ev.pos (by simp) ?_))
  rw [show rd [a, b, c, d, e] 0 = a from rfl, show wrap64 (4 - 1) = ((3 : Nat) : Int) by unfold wrap64; omega]
  refine put_uint32_inner (b64 ha) 3 _ (by decide) (by simp) ?_
  rw [show wrap64 (0 + 1) = 1 by unfold wrap64; omega]
  refine Ev.up ?_
  simp only [octets_Put_uint32.l0]
  refine Ev.pos (by simp) (Ev.pos (by decide) (Ev.pos (by simp) ?_))
  rw [show rd [a, b, c, d, e] 1 = b from rfl, show wrap64 (4 - 1) = ((3 : Nat) : Int) by unfold wrap64; omega]
  refine put_uint32_inner (b64 hb) 3 _ (by decide) (by simp [BE_length]) ?_
  rw [show wrap64 (1 + 1) = 2 by unfold wrap64; omega]
  refine Ev.up ?_
  simp only [octets_Put_uint32.l0]
  refine Ev.pos (by simp) (Ev.pos (by decide) (Ev.pos (by simp) ?_))
  rw [show rd [a, b, c, d, e] 2 = c from rfl, show wrap64 (4 - 1) = ((3 : Nat) : Int) by unfold wrap64; omega]
  refine put_uint32_inner (b64 hc) 3 _ (by decide) (by simp [BE_length]) ?_
  rw [show wrap64 (2 + 1) = 3 by unfold wrap64; omega]
  refine Ev.up ?_
  simp only [octets_Put_uint32.l0]
  refine Ev.pos (by simp) (Ev.pos (by decide) (Ev.pos (by simp) ?_))
  rw [show rd [a, b, c, d, e] 3 = d from rfl, show wrap64 (4 - 1) = ((3 : Nat) : Int) by unfold wrap64; omega]
  refine put_uint32_inner (b64 hd) 3 _ (by decide) (by simp [BE_length]) ?_
  rw [show wrap64 (3 + 1) = 4 by unfold wrap64; omega]
  refine Ev.up ?_
  simp only [octets_Put_uint32.l0]
  refine Ev.pos (by simp) (Ev.pos (by decide) (Ev.pos (by simp) ?_))
  rw [show rd [a, b, c, d, e] 4 = e from rfl, show wrap64 (4 - 1) = ((3 : Nat) : Int) by unfold wrap64; omega]
  refine put_uint32_inner (b64 he) 3 _ (by decide) (by simp [BE_length]) ?_
  rw [show wrap64 (4 + 1) = 5 by unfold wrap64; omega]
  refine Ev.up ?_
  simp only [octets_Put_uint32.l0]
  refine Ev.neg (by simp) ?_
  rw [show ([] ++ BE (3 + 1) a ++ BE (3 + 1) b ++ BE (3 + 1) c ++ BE (3 + 1) d ++ BE (3 + 1) e : List Int) = PB (a, b, c, d, e) by simp [PB]]
  exact Ev.now _
/-! a word of four bytes -/
theorem or_join64 {x y : Int} {s : Nat} (hs : s ≤ 64) (h0 : 0 ≤ x) (h1 : x < 18446744073709551616) (hm : x % 2 ^ s = 0) (g0 : 0 ≤ y) (g1 : y < 2 ^ s) : Go.bits .or .u64 x y = x + y :=
  bits_join .u64 64 (by simp [IntKind.bits]) (fun m a b => by rw [wrap_u64]; omega) s x y h0 hm h1 g0 g1 (Int.lt_of_lt_of_le g1 (pow_le_of hs))
theorem or_byte64 {x y : Int} (hx : 0 ≤ x ∧ x < 72057594037927936) (hy : 0 ≤ y ∧ y ≤ 255) : Go.bits .or .u64 (IntKind.u64.wrap (x * 256)) (IntKind.u64.wrap y) = x * 256 + y := by
  rw [wrap_u64, wrap_u64, show x * 256 % 18446744073709551616 = x * 256 by omega, show y % 18446744073709551616 = y by omega]
  exact or_join64 (s := 8) (by decide) (by omega) (by omega) (by show x * 256 % 256 = 0; omega) (by omega) (by show y < 256; omega)
theorem BE4 (x : Int) : BE 4 x = [x / 16777216 % 256, x / 65536 % 256, x / 256 % 256, x % 256] := by
  simp only [BE]
  rw [show (256 : Int) ^ 3 = 16777216 from by decide, show (256 : Int) ^ 2 = 65536 from by decide, show (256 : Int) ^ 1 = 256 from by decide, show (256 : Int) ^ 0 = 1 from by decide, Int.ediv_one]
theorem word32_is {a b c d : Int} (ha : 0 ≤ a ∧ a ≤ 255) (hb : 0 ≤ b ∧ b ≤ 255) (hc : 0 ≤ c ∧ c ≤ 255) (hd : 0 ≤ d ∧ d ≤ 255) : Ev (fun k => octets_word_uint32.f k [a, b, c, d]) (((a * 256 + b) * 256 + c) * 256 + d) := by
  show Ev (fun k => octets_word_uint32.l0 k 0 [a, b, c, d] 4 0) _
  refine Ev.up ?_
  simp only [octets_word_uint32.l0]
  refine Ev.pos (by decide) (Ev.pos (by decide) (Ev.pos (by simp) ?_))
  rw [show rd [a, b, c, d] 0 = a from rfl, or_byte64 (by omega) ha, show wrap64 (0 + 1) = 1 by unfold wrap64; omega]
  refine Ev.up ?_
  simp only [octets_word_uint32.l0]
  refine Ev.pos (by decide) (Ev.pos (by decide) (Ev.pos (by simp) ?_))
  rw [show rd [a, b, c, d] 1 = b from rfl, or_byte64 (by omega) hb, show wrap64 (1 + 1) = 2 by unfold wrap64; omega]
  refine Ev.up ?_
  simp only [octets_word_uint32.l0]
  refine Ev.pos (by decide) (Ev.pos (by decide) (Ev.pos (by simp) ?_))
  rw [show rd [a, b, c, d] 2 = c from rfl, or_byte64 (by omega) hc, show wrap64 (2 + 1) = 3 by unfold wrap64; omega]
  refine Ev.up ?_
  simp only [octets_word_uint32.l0]
  refine Ev.pos (by decide) (Ev.pos (by decide) (Ev.pos (by simp) ?_))
  rw [show rd [a, b, c, d] 3 = d from rfl, or_byte64 (by omega) hd, show wrap64 (3 + 1) = 4 by unfold wrap64; omega]
  refine Ev.up ?_
  simp only [octets_word_uint32.l0]
  refine Ev.neg (by decide) ?_
  rw [show ((((0 * 256 + a) * 256 + b) * 256 + c) * 256 + d) % 4294967296 = ((a * 256 + b) * 256 + c) * 256 + d by omega]
  exact Ev.now _
theorem wordBE {x : Int} (h : B32 x) : Ev (fun k => octets_word_uint32.f k (BE 4 x)) x := by
  rw [BE4]
  unfold B32 at h
  exact Ev.cast (word32_is (a := x / 16777216 % 256) (b := x / 65536 % 256) (c := x / 256 % 256) (d := x % 256) (by omega) (by omega) (by omega) (by omega)) (by omega)
theorem list5_is (s : St) (h : U5 s) : Ev (fun k => octets_List_uint32.f k (PB s) 0 5) (L5 s, none) := by
  obtain ⟨a, b, c, d, e⟩ := s
  obtain ⟨ha, hb, hc, hd, he⟩ := h
  unfold octets_List_uint32.f
  refine Ev.bind size32_is ?_
  refine Ev.pos ⟨rfl, by rw [PB_length]; omega⟩ (Ev.neg (by decide) (Ev.neg (by rw [PB_length]; decide) (Ev.neg (by decide) (Ev.neg (by rw [PB_length]; decide) ?_))))
  refine Ev.bind (a := L5 (a, b, c, d, e)) ?_ (Ev.now _)
  have e0 : PB (a, b, c, d, e) = BE 4 a ++ (BE 4 b ++ (BE 4 c ++ (BE 4 d ++ BE 4 e))) := rfl
  have t0 : ((((PB (a, b, c, d, e)).drop (0 : Int).toNat).drop (0 * 4)).take 4) = BE 4 a := by rw [e0, BE4, BE4, BE4, BE4, BE4]; rfl
  have t1 : ((((PB (a, b, c, d, e)).drop (0 : Int).toNat).drop (1 * 4)).take 4) = BE 4 b := by rw [e0, BE4, BE4, BE4, BE4, BE4]; rfl
  have t2 : ((((PB (a, b, c, d, e)).drop (0 : Int).toNat).drop (2 * 4)).take 4) = BE 4 c := by rw [e0, BE4, BE4, BE4, BE4, BE4]; rfl
  have t3 : ((((PB (a, b, c, d, e)).drop (0 : Int).toNat).drop (3 * 4)).take 4) = BE 4 d := by rw [e0, BE4, BE4, BE4, BE4, BE4]; rfl
  have t4 : ((((PB (a, b, c, d, e)).drop (0 : Int).toNat).drop (4 * 4)).take 4) = BE 4 e := by rw [e0, BE4, BE4, BE4, BE4, BE4]; rfl
  show Ev (fun k => octets_List_uint32.go k ((PB (a, b, c, d, e)).drop (0 : Int).toNat) 5) _
  simp only [octets_List_uint32.go, t0, t1, t2, t3, t4]
  refine Ev.bind (a := [a, b, c, d]) ?_ (Ev.bind (wordBE he) (Ev.now _))
  refine Ev.bind (a := [a, b, c]) ?_ (Ev.bind (wordBE hd) (Ev.now _))
  refine Ev.bind (a := [a, b]) ?_ (Ev.bind (wordBE hc) (Ev.now _))
  refine Ev.bind (a := [a]) ?_ (Ev.bind (wordBE hb) (Ev.now _))
  refine Ev.bind (a := []) (Ev.now _) (Ev.bind (wordBE ha) (Ev.now _))
/-! the document's step -/
theorem value4_is {a b c d : Int} (ha : 0 ≤ a ∧ a ≤ 255) (hb : 0 ≤ b ∧ b ≤ 255) (hc : 0 ≤ c ∧ c ≤ 255) (hd : 0 ≤ d ∧ d ≤ 255) : Ev (fun k => horologeref03_Value.f k [a, b, c, d]) (((a * 256 + b) * 256 + c) * 256 + d) := by
  unfold horologeref03_Value.f
  refine Ev.up ?_
  simp only [horologeref03_Value.l0]
  refine Ev.pos (by simp) (Ev.pos (by decide) ?_)
  rw [show rd [a, b, c, d] 0 = a from rfl, wrap_u64, wrap_u64, wrap_u64, show (0 * 256 % 18446744073709551616 + a % 18446744073709551616) % 18446744073709551616 = a by omega, show wrap64 (0 + 1) = 1 by unfold wrap64; omega]
  refine Ev.up ?_
  simp only [horologeref03_Value.l0]
  refine Ev.pos (by simp) (Ev.pos (by decide) ?_)
  rw [show rd [a, b, c, d] 1 = b from rfl, wrap_u64, wrap_u64, wrap_u64, show (a * 256 % 18446744073709551616 + b % 18446744073709551616) % 18446744073709551616 = a * 256 + b by omega, show wrap64 (1 + 1) = 2 by unfold wrap64; omega]
  refine Ev.up ?_
  simp only [horologeref03_Value.l0]
  refine Ev.pos (by simp) (Ev.pos (by decide) ?_)
  rw [show rd [a, b, c, d] 2 = c from rfl, wrap_u64, wrap_u64, wrap_u64, show ((a * 256 + b) * 256 % 18446744073709551616 + c % 18446744073709551616) % 18446744073709551616 = (a * 256 + b) * 256 + c by omega, show wrap64 (2 + 1) = 3 by unfold wrap64; omega]
  refine Ev.up ?_
  simp only [horologeref03_Value.l0]
  refine Ev.pos (by simp) (Ev.pos (by decide) ?_)
  rw [show rd [a, b, c, d] 3 = d from rfl, wrap_u64, wrap_u64, wrap_u64, show (((a * 256 + b) * 256 + c) * 256 % 18446744073709551616 + d % 18446744073709551616) % 18446744073709551616 = ((a * 256 + b) * 256 + c) * 256 + d by omega, show wrap64 (3 + 1) = 4 by unfold wrap64; omega]
  refine Ev.up ?_
  simp only [horologeref03_Value.l0]
  exact Ev.neg (by simp) (Ev.now _)
theorem cut4 (b : List Int) (t : Nat) (hb : b.length = 64) (ht : t < 16) : (b.take (4 * t + 4)).drop (4 * t) = [b.getD (4 * t) 0, b.getD (4 * t + 1) 0, b.getD (4 * t + 2) 0, b.getD (4 * t + 3) 0] := by
  apply List.ext_getElem
  · simp; omega
  · intro i h1 h2
    simp at h2
    match i, h2 with
    | 0, _ => simp [show 4 * t < b.length by omega]
    | 1, _ => simp [show 4 * t + 1 < b.length by omega]
    | 2, _ => simp [show 4 * t + 2 < b.length by omega]
    | 3, _ => simp [show 4 * t + 3 < b.length by omega]
theorem rd_sw (b : List Int) (t i : Nat) (y : Int) (hy : y = (i : Int)) : rd (SW b t) y = (SW b t).getD i 0 := by
  subst hy
  unfold rd
  simp
theorem rstep2 (W : List Int) (hW : W.length = 80) (s : St) : ∀ (n t : Nat), t + n = 80 →
    Ev (fun k => horologeref09_Step.l2 k W (RNS W s t).1 (RNS W s t).2.1 (RNS W s t).2.2.1 (RNS W s t).2.2.2.1 (RNS W s t).2.2.2.2 (t : Int) s.1 s.2.1 s.2.2.1 s.2.2.2.1 s.2.2.2.2) (add5 s (RNS W s 80))
  | 0, t, h => by
    obtain rfl : t = 80 := by omega
    refine Ev.up ?_
    simp only [horologeref09_Step.l2]
    exact Ev.neg (by decide) (Ev.now _)
  | n + 1, t, h => by
    have ih := rstep2 W hW s n (t + 1) (by omega)
    have hrn : RNS W s (t + 1) = RN t (W.getD t 0) (RNS W s t) := rfl
    rw [hrn] at ih
    obtain ⟨q, hq⟩ : ∃ q, RNS W s t = q := ⟨_, rfl⟩
    rw [hq] at ih ⊢
    obtain ⟨a, b, c, d, e⟩ := q
    have hrd : rd W (t : Int) = W.getD t 0 := by unfold rd; simp
    have key : ∀ f kk, FT t b c d = (f, kk) → Ev (fun k => horologeref09_Step.j3 k W a b c d e (t : Int) f kk s.1 s.2.1 s.2.2.1 s.2.2.2.1 s.2.2.2.2) (add5 s (RNS W s 80)) := by
      intro f kk hf
      refine Ev.up ?_
      simp only [horologeref09_Step.j3]
      refine Ev.bindc (turn_5 a) (Ev.pos (by omega) (Ev.pos (by rw [hW]; omega) (Ev.bindc (turn_30 b) ?_)))
      rw [hrd, show wrap64 ((t : Int) + 1) = ((t + 1 : Nat) : Int) by unfold wrap64; omega]
      unfold RN at ih
      simp only [hf] at ih
      exact ih
    refine Ev.up ?_
    simp only [horologeref09_Step.l2]
    refine Ev.pos (by omega) ?_
    by_cases h1 : t < 20
    · refine Ev.pos (by omega) (key _ _ ?_)
      rw [ch_eq]; unfold FT; rw [if_pos h1]
    refine Ev.neg (by omega) ?_
    by_cases h2 : t < 40
    · refine Ev.pos (by omega) (key _ _ ?_)
      unfold FT; rw [if_neg h1, if_pos h2]
    refine Ev.neg (by omega) ?_
    by_cases h3 : t < 60
    · refine Ev.pos (by omega) (key _ _ ?_)
      rw [maj_eq]; unfold FT; rw [if_neg h1, if_neg h2, if_pos h3]
    refine Ev.neg (by omega) (key _ _ ?_)
    unfold FT; rw [if_neg h1, if_neg h2, if_neg h3]
theorem rstep1 (b : List Int) (s : St) : ∀ (n t : Nat), t + n = 80 → 16 ≤ t →
    Ev (fun k => horologeref09_Step.l1 k (SW b t) (t : Int) s.1 s.2.1 s.2.2.1 s.2.2.2.1 s.2.2.2.2) (STEP s b)
  | 0, t, h, h16 => by
    obtain rfl : t = 80 := by omega
    refine Ev.up ?_
    simp only [horologeref09_Step.l1]
    exact Ev.neg (by decide) (rstep2 (SW b 80) (SW_length b 80) s 80 0 (by omega))
  | n + 1, t, h, h16 => by
    have ih := rstep1 b s n (t + 1) (by omega) (by omega)
    have hl := SW_length b t
    refine Ev.up ?_
    simp only [horologeref09_Step.l1]
    have w3 : wrap64 ((t : Int) - 3) = ((t - 3 : Nat) : Int) := by unfold wrap64; omega
    have w8 : wrap64 ((t : Int) - 8) = ((t - 8 : Nat) : Int) := by unfold wrap64; omega
    have w14 : wrap64 ((t : Int) - 14) = ((t - 14 : Nat) : Int) := by unfold wrap64; omega
    have w16 : wrap64 ((t : Int) - 16) = ((t - 16 : Nat) : Int) := by unfold wrap64; omega
    simp only [w3, w8, w14, w16, hl]
    refine Ev.pos (by omega) (Ev.pos (by omega) (Ev.pos (by omega) (Ev.pos (by omega) (Ev.pos (by omega) (Ev.pos (by omega) (Ev.pos (by omega) (Ev.pos (by omega) (Ev.pos (by omega) ?_))))))))
    refine Ev.bindc (turn_1 _) (Ev.pos (by omega) ?_)
    rw [rd_sw b t (t - 3) _ rfl, rd_sw b t (t - 8) _ rfl, rd_sw b t (t - 14) _ rfl, rd_sw b t (t - 16) _ rfl, show wrap64 ((t : Int) + 1) = ((t + 1 : Nat) : Int) by unfold wrap64; omega]
    rw [sw_hi b t (by omega)] at ih
    exact ih
theorem rstep0 (b : List Int) (hb : b.length = 64) (hy : ∀ i, Byte (b.getD i 0)) (s : St) : ∀ (n t : Nat), t + n = 16 →
    Ev (fun k => horologeref09_Step.l0 k b (SW b t) (t : Int) s.1 s.2.1 s.2.2.1 s.2.2.2.1 s.2.2.2.2) (STEP s b)
  | 0, t, h => by
    obtain rfl : t = 16 := by omega
    refine Ev.up ?_
    simp only [horologeref09_Step.l0]
    exact Ev.neg (by decide) (rstep1 b s 64 16 (by omega) (by omega))
  | n + 1, t, h => by
    have ih := rstep0 b hb hy s n (t + 1) (by omega)
    have hl := SW_length b t
    have h0 := hy (4 * t)
    have h1 := hy (4 * t + 1)
    have h2 := hy (4 * t + 2)
    have h3 := hy (4 * t + 3)
    have hs := wv_sum b t hy
    refine Ev.up ?_
    simp only [horologeref09_Step.l0]
    have w0 : wrap64 (4 * (t : Int)) = ((4 * t : Nat) : Int) := by unfold wrap64; omega
    have w4 : wrap64 (((4 * t : Nat) : Int) + 4) = ((4 * t + 4 : Nat) : Int) := by unfold wrap64; omega
    simp only [w0, w4, hl, hb, Int.toNat_natCast]
    rw [cut4 b t hb (by omega)]
    refine Ev.pos (by omega) (Ev.pos (by omega) (Ev.pos (by omega) (Ev.pos (by omega) ?_)))
    refine Ev.bind (value4_is h0 h1 h2 h3) (Ev.pos (by omega) ?_)
    rw [show ((((b.getD (4 * t) 0 * 256 + b.getD (4 * t + 1) 0) * 256 + b.getD (4 * t + 2) 0) * 256 + b.getD (4 * t + 3) 0) % 4294967296) = wv b t by unfold Byte at h0 h1 h2 h3; omega, show wrap64 ((t : Int) + 1) = ((t + 1 : Nat) : Int) by unfold wrap64; omega]
    rw [sw_lo b t (by omega)] at ih
    exact ih
theorem rstep_is (s : St) (b : List Int) (hb : b.length = 64) (hy : ∀ i, Byte (b.getD i 0)) : Ev (fun k => horologeref09_Step.f k s.1 s.2.1 s.2.2.1 s.2.2.2.1 s.2.2.2.2 b) (STEP s b) := rstep0 b hb hy s 16 0 (by omega)
end Go.Proofs.Ytjffbdgidddbjaa
