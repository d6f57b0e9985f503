/-
  SHA-1 in plain Lean: the words of a block, the rounds, the state behind a block. No program in sight.
-/
import Derived.Test.YtjffbdgidddbjaaMSha1Sumsx
import Derived.Test.YtjffbdgidddbjaaBase
import Derived.Test.YtjffbdgidddbjaaRegBase
namespace Go.Proofs.Ytjffbdgidddbjaa
set_option linter.unusedVariables false
set_option linter.unusedSimpArgs false
set_option linter.unnecessarySimpa false
open Go.RowKit Go.Proofs.YtjffbdgidddbjaaW.PrintWords Go.Proofs.YtjffbdgidddbjaaW.PrintLast Go.Proofs.YtjffbdgidddbjaaW.PrintMore Go.Proofs.Ytjffbdgidddbjaa.MSha1Sums Go.Proofs.Ytjffbdgidddbjaa.Base
def B32 (x : Int) : Prop := 0 ≤ x ∧ x < 4294967296
def Byte (x : Int) : Prop := 0 ≤ x ∧ x ≤ 255
def Bytes (l : List Int) : Prop := ∀ x ∈ l, Byte x
def rot (x a b : Int) : Int := Go.bits .or .u32 (shl .u32 x a) (shr .u32 x b)
theorem rol_1 (x : Int) : bits_RotateLeft32.f x 1 = some (rot x 1 31) := by
  unfold bits_RotateLeft32.f rot
  rw [show Go.bits .and .u64 (IntKind.u64.wrap 1) 31 = 1 from by kernel_rfl, show IntKind.u64.wrap (32 - 1) = 31 from by kernel_rfl, if_pos (by decide), if_pos (by decide)]
theorem rol_5 (x : Int) : bits_RotateLeft32.f x 5 = some (rot x 5 27) := by
  unfold bits_RotateLeft32.f rot
  rw [show Go.bits .and .u64 (IntKind.u64.wrap 5) 31 = 5 from by kernel_rfl, show IntKind.u64.wrap (32 - 5) = 27 from by kernel_rfl, if_pos (by decide), if_pos (by decide)]
theorem rol_30 (x : Int) : bits_RotateLeft32.f x 30 = some (rot x 30 2) := by
  unfold bits_RotateLeft32.f rot
  rw [show Go.bits .and .u64 (IntKind.u64.wrap 30) 31 = 30 from by kernel_rfl, show IntKind.u64.wrap (32 - 30) = 2 from by kernel_rfl, if_pos (by decide), if_pos (by decide)]
theorem turn_1 (x : Int) : horologeref09_Turn.f x 1 = some (rot x 1 31) := by
  unfold horologeref09_Turn.f rot
  rw [show IntKind.u64.wrap 1 = 1 from by kernel_rfl, show IntKind.u64.wrap (wrap64 (32 - 1)) = 31 from by kernel_rfl, if_pos (by decide), if_pos (by decide)]
theorem turn_5 (x : Int) : horologeref09_Turn.f x 5 = some (rot x 5 27) := by
  unfold horologeref09_Turn.f rot
  rw [show IntKind.u64.wrap 5 = 5 from by kernel_rfl, show IntKind.u64.wrap (wrap64 (32 - 5)) = 27 from by kernel_rfl, if_pos (by decide), if_pos (by decide)]
theorem turn_30 (x : Int) : horologeref09_Turn.f x 30 = some (rot x 30 2) := by
  unfold horologeref09_Turn.f rot
  rw [show IntKind.u64.wrap 30 = 30 from by kernel_rfl, show IntKind.u64.wrap (wrap64 (32 - 30)) = 2 from by kernel_rfl, if_pos (by decide), if_pos (by decide)]
def x32 (x y : Int) : Int := Go.bits .xor .u32 x y
/-- Four bytes as a word. -/
def wv (b : List Int) (t : Nat) : Int := Go.bits .or .u32 (Go.bits .or .u32 (Go.bits .or .u32 (shl .u32 (b.getD (4 * t) 0) 24) (shl .u32 (b.getD (4 * t + 1) 0) 16)) (shl .u32 (b.getD (4 * t + 2) 0) 8)) (b.getD (4 * t + 3) 0)
/-- A word of the schedule, from those ahead of it. -/
def nx (w : List Int) (t : Nat) : Int := rot (Go.bits .xor .u32 (Go.bits .xor .u32 (Go.bits .xor .u32 (w.getD (t - 3) 0) (w.getD (t - 8) 0)) (w.getD (t - 14) 0)) (w.getD (t - 16) 0)) 1 31
/-- The first words of a block. -/
def SW (b : List Int) : Nat → List Int
  | 0 => []
  | t + 1 => SW b t ++ [if t < 16 then wv b t else nx (SW b t) t]
theorem SW_length (b : List Int) : ∀ t, (SW b t).length = t
  | 0 => rfl
  | t + 1 => by simp [SW, SW_length b t]

/-! bits -/
def bv (x : Int) : BitVec 32 := BitVec.ofInt 32 x
def tv (x : BitVec 32) : Int := (x.toNat : Int)
theorem bv_tv (x : BitVec 32) : bv (tv x) = x := by apply BitVec.eq_of_toNat_eq; unfold bv tv; rw [BitVec.ofInt_natCast, BitVec.toNat_ofNat]; have := x.isLt; omega
theorem wrap_tv (x : BitVec 32) : IntKind.u32.wrap (x.toNat : Int) = tv x := by rw [IntKind.wrap_u32]; unfold tv; have := x.isLt; omega
theorem tv_32 (x : BitVec 32) : B32 (tv x) := by have := x.isLt; unfold B32 tv; omega
theorem and_tv (x y : Int) : Go.bits .and .u32 x y = tv (bv x &&& bv y) := wrap_tv _
theorem or_tv (x y : Int) : Go.bits .or .u32 x y = tv (bv x ||| bv y) := wrap_tv _
theorem xor_tv (x y : Int) : Go.bits .xor .u32 x y = tv (bv x ^^^ bv y) := wrap_tv _
theorem bits_32 (x y : Int) : B32 (Go.bits .or .u32 x y) := by rw [or_tv]; exact tv_32 _
theorem rot_32 (x a b : Int) : B32 (rot x a b) := bits_32 _ _
theorem ones_bv (b : BitVec 32) : (bv 4294967295 ^^^ b) = ~~~ b := by
  have h : bv 4294967295 = BitVec.allOnes 32 := by decide
  rw [h, BitVec.allOnes_xor]
theorem ch_bv (b c d : BitVec 32) : (b &&& c) ||| ((bv 4294967295 ^^^ b) &&& d) = d ^^^ (b &&& (c ^^^ d)) := by
  rw [ones_bv]
  ext i h; simp; cases b[i] <;> cases c[i] <;> cases d[i] <;> rfl
theorem maj_bv (b c d : BitVec 32) : ((b &&& c) ||| (b &&& d)) ||| (c &&& d) = (b &&& c) ||| (d &&& (b ||| c)) := by
  ext i h; simp; cases b[i] <;> cases c[i] <;> cases d[i] <;> rfl
theorem ch_eq (b c d : Int) : Go.bits .or .u32 (Go.bits .and .u32 b c) (Go.bits .and .u32 (Go.bits .xor .u32 4294967295 b) d) = Go.bits .xor .u32 d (Go.bits .and .u32 b (Go.bits .xor .u32 c d)) := by
  simp only [or_tv, and_tv, xor_tv, bv_tv]
  rw [ch_bv]
theorem maj_eq (b c d : Int) : Go.bits .or .u32 (Go.bits .or .u32 (Go.bits .and .u32 b c) (Go.bits .and .u32 b d)) (Go.bits .and .u32 c d) = Go.bits .or .u32 (Go.bits .and .u32 b c) (Go.bits .and .u32 d (Go.bits .or .u32 b c)) := by
  simp only [or_tv, and_tv, bv_tv]
  rw [maj_bv]
/-! rounds -/
def FT (t : Nat) (b c d : Int) : Int × Int :=
  if t < 20 then (Go.bits .xor .u32 d (Go.bits .and .u32 b (Go.bits .xor .u32 c d)), 1518500249)
  else if t < 40 then (Go.bits .xor .u32 (Go.bits .xor .u32 b c) d, 1859775393)
  else if t < 60 then (Go.bits .or .u32 (Go.bits .and .u32 b c) (Go.bits .and .u32 d (Go.bits .or .u32 b c)), 2400959708)
  else (Go.bits .xor .u32 (Go.bits .xor .u32 b c) d, 3395469782)
theorem mix_ft (t : Nat) (ht : t < 80) (b c d : Int) : sha1_mix.f t b c d = some (FT t b c d) := by
  unfold sha1_mix.f FT
  have e : wrap64 (Int.tdiv (t : Int) 20) = ((t / 20 : Nat) : Int) := by rw [Int.tdiv_eq_ediv_of_nonneg (by omega)]; unfold wrap64; omega
  rw [e]
  by_cases h1 : t < 20
  · rw [if_pos (by omega), if_pos h1]
  rw [if_neg (by omega), if_neg h1]
  by_cases h2 : t < 40
  · rw [if_pos (by omega), if_pos h2]
  rw [if_neg (by omega), if_neg h2]
  by_cases h3 : t < 60
  · rw [if_pos (by omega), if_pos h3]
  rw [if_neg (by omega), if_neg h3]
abbrev St := Int × Int × Int × Int × Int
def RN (t : Nat) (w : Int) (s : St) : St :=
  ((((((((rot s.1 5 27 + (FT t s.2.1 s.2.2.1 s.2.2.2.1).1) % 4294967296) + s.2.2.2.2) % 4294967296) + (FT t s.2.1 s.2.2.1 s.2.2.2.1).2) % 4294967296) + w) % 4294967296, s.1, rot s.2.1 30 2, s.2.2.1, s.2.2.2.1)
/-- The first rounds over some words. -/
def RNS (W : List Int) (s : St) : Nat → St
  | 0 => s
  | t + 1 => RN t (W.getD t 0) (RNS W s t)
def add5 (s v : St) : St := ((s.1 + v.1) % 4294967296, (s.2.1 + v.2.1) % 4294967296, (s.2.2.1 + v.2.2.1) % 4294967296, (s.2.2.2.1 + v.2.2.2.1) % 4294967296, (s.2.2.2.2 + v.2.2.2.2) % 4294967296)
def STEP (s : St) (b : List Int) : St := add5 s (RNS (SW b 80) s 80)
/-! the document's -/
theorem shl24 (x : Int) (h : Byte x) : shl .u32 x 24 = x * 16777216 := by
  unfold shl Byte at *
  rw [show min (24 : Int).toNat IntKind.u32.bits = 24 from by decide, IntKind.wrap_u32]
  omega
theorem shl16 (x : Int) (h : Byte x) : shl .u32 x 16 = x * 65536 := by
  unfold shl Byte at *
  rw [show min (16 : Int).toNat IntKind.u32.bits = 16 from by decide, IntKind.wrap_u32]
  omega
theorem shl8 (x : Int) (h : Byte x) : shl .u32 x 8 = x * 256 := by
  unfold shl Byte at *
  rw [show min (8 : Int).toNat IntKind.u32.bits = 8 from by decide, IntKind.wrap_u32]
  omega
theorem wraps_u32 (n : Int) (h₀ : 0 ≤ n) (h₁ : n < 2 ^ 32) : IntKind.u32.wrap n = n := by rw [IntKind.wrap_u32]; omega
theorem or_sum (i : Nat) (x y : Int) (hx₀ : 0 ≤ x) (hx : x % 2 ^ i = 0) (hx₁ : x < 2 ^ 32) (hy₀ : 0 ≤ y) (hy : y < 2 ^ i) (hy₁ : y < 2 ^ 32) : Go.bits .or .u32 x y = x + y :=
  bits_join .u32 32 (by decide) wraps_u32 i x y hx₀ hx hx₁ hy₀ hy hy₁
theorem wv_sum (b : List Int) (t : Nat) (hy : ∀ i, Byte (b.getD i 0)) : wv b t = b.getD (4 * t) 0 * 16777216 + b.getD (4 * t + 1) 0 * 65536 + b.getD (4 * t + 2) 0 * 256 + b.getD (4 * t + 3) 0 := by
  unfold wv
  have h0 := hy (4 * t)
  have h1 := hy (4 * t + 1)
  have h2 := hy (4 * t + 2)
  have h3 := hy (4 * t + 3)
  rw [shl24 _ h0, shl16 _ h1, shl8 _ h2]
  unfold Byte at h0 h1 h2 h3
  rw [or_sum 24 (b.getD (4 * t) 0 * 16777216) (b.getD (4 * t + 1) 0 * 65536) (by omega) (by omega) (by omega) (by omega) (by omega) (by omega)]
  rw [or_sum 16 (b.getD (4 * t) 0 * 16777216 + b.getD (4 * t + 1) 0 * 65536) (b.getD (4 * t + 2) 0 * 256) (by omega) (by omega) (by omega) (by omega) (by omega) (by omega)]
  rw [or_sum 8 (b.getD (4 * t) 0 * 16777216 + b.getD (4 * t + 1) 0 * 65536 + b.getD (4 * t + 2) 0 * 256) (b.getD (4 * t + 3) 0) (by omega) (by omega) (by omega) (by omega) (by omega) (by omega)]
end Go.Proofs.Ytjffbdgidddbjaa
