/- A reading's stamp, and what a question and its answer tell, in plain Lean. -/
import Derived.Test.YtlaaofbmnaekoaaClientPure
namespace Go.Proofs.Ytlaaofbmnaekoaa.MWholeClient
open Go.RowKit Go.Proofs.YtlaaofbmnaekoaaW.PrintWords Go.Proofs.YtlaaofbmnaekoaaW.PrintLast Go.Proofs.YtlaaofbmnaekoaaW.PrintMore Go.Proofs.Ytlaaofbmnaekoaa.Base
set_option linter.unusedVariables false
set_option linter.unusedSimpArgs false

def SA (u : Int) : Int := (u / 1000000000 + 2208988800) % 4294967296
def SB (u : Int) : Int := (u % 1000000000 * 4294967296 + 999999999) / 1000000000
def GG (u : Int) : Int := (u / 1000000000 + 2208988800) * 4294967296 + SB u
theorem SA_32 (u : Int) : B32 (SA u) := by unfold SA B32; omega
theorem SB_32 (u : Int) : B32 (SB u) := by unfold SB B32; omega
theorem secs_is (u : Int) (h : 0 ≤ u ∧ u < 18446744073709551616) : Ev (fun k => steady_Seconds.f k u) (u / 1000000000 + 2208988800) := by
  unfold steady_Seconds.f
  have hs : steady_Split.f u = some (u / 1000000000, u % 1000000000) := by
    unfold steady_Split.f
    rw [tdiv_is, tmod_is, if_neg (by omega), if_neg (by omega), wrap_u64, wr (by omega), wr (by omega)]
    congr 2
    omega
  refine Ev.bindc hs (Ev.bind (a := (u / 1000000000 + 2208988800, none)) ?_ (Ev.pos rfl (Ev.now _)))
  unfold stamp_FromPosix.f
  refine Ev.bind (a := (u / 1000000000 + 2208988800, none)) ?_ (Ev.now _)
  unfold num_Add.f
  have e : wrap64 (u / 1000000000 + 2208988800) = u / 1000000000 + 2208988800 := wr (by omega)
  rw [e]
  refine Ev.pos (by decide) (Ev.neg (by omega) (Ev.neg (by decide) (Ev.up ?_)))
  simp only [num_Add.j0]
  exact Ev.neg (by decide) (Ev.now _)
theorem stamp_is (u : Int) (h : 0 ≤ u ∧ u < 18446744073709551616) : Ev (fun k => steady_Stamp.f k u) (SA u, SB u) := by
  unfold steady_Stamp.f
  have hs : steady_Split.f u = some (u / 1000000000, u % 1000000000) := by
    unfold steady_Split.f
    rw [tdiv_is, tmod_is, if_neg (by omega), if_neg (by omega), wrap_u64, wr (by omega), wr (by omega)]
    congr 2
    omega
  refine Ev.bindc hs (Ev.bind (secs_is u h) (Ev.bindc (a := (SA u, SB u, none)) ?_ (Ev.pos rfl (Ev.now _))))
  unfold stamp_Of.f stamp_Fraction.f stamp_right.f
  simp only
  rw [if_pos (by omega)]
  simp only [Option.bind_some]
  rw [if_pos (by rw [decide_eq_true_iff]; omega)]
  simp only [Option.bind_some, Option.isNone_none, if_true]
  unfold era_Fold_uint32.f
  simp only [Option.bind_some]
  congr 2
  congr 1
  unfold SB
  obtain ⟨r, hr⟩ : ∃ r, u % 1000000000 = r := ⟨_, rfl⟩
  have hb : 0 ≤ r ∧ r < 1000000000 := by omega
  rw [hr]
  simp only [wrap_u64]
  rw [show r % 18446744073709551616 = r by omega, show r * 4294967296 % 18446744073709551616 = r * 4294967296 by omega, show (r * 4294967296 + 1000000000) % 18446744073709551616 = r * 4294967296 + 1000000000 by omega, show (r * 4294967296 + 1000000000 - 1) % 18446744073709551616 = r * 4294967296 + 999999999 by omega, tdiv_is, if_neg (by omega)]
  omega
theorem bits_is (u : Int) : stamp_Long_bits.f (SA u) (SB u) = some (SA u * 4294967296 + SB u) := by
  have h1 := SA_32 u
  have h2 := SB_32 u
  unfold B32 at h1 h2
  unfold stamp_Long_bits.f
  simp only [wrap_u64]
  rw [show SA u % 18446744073709551616 * 4294967296 % 18446744073709551616 = SA u * 4294967296 by omega, show SB u % 18446744073709551616 = SB u by omega]
  rw [or_join64 (s := 32) (by decide) (by omega) (by omega) (by show SA u * 4294967296 % 4294967296 = 0; omega) (by omega) (by show SB u < 4294967296; omega)]
theorem sub_is (u v : Int) (h : -9223372036854775808 ≤ GG u - GG v ∧ GG u - GG v ≤ 9223372036854775807) : stamp_Sub.f (SA u) (SB u) (SA v) (SB v) = some (GG u - GG v) := by
  unfold stamp_Sub.f
  rw [bits_is, bits_is]
  simp only [Option.bind_some, wrap_u64]
  congr 1
  have h1 := SB_32 u
  have h2 := SB_32 v
  unfold B32 at h1 h2
  unfold GG at h ⊢
  unfold SA wrap64
  generalize SB u = s at *
  generalize SB v = t at *
  omega
theorem GG_mono {u v : Int} (h0 : 0 ≤ u) (h : u ≤ v) : GG u ≤ GG v := by
  unfold GG SB
  omega
theorem GG_near {u v : Int} (h0 : 0 ≤ u) (h : v ≤ u + 12884901888) : GG v - GG u ≤ 85899345920 := by
  unfold GG SB
  omega
theorem and_nat (x y : Int) : Go.bits .and .i64 x y = IntKind.i64.wrap (((BitVec.ofInt 64 x).toNat &&& (BitVec.ofInt 64 y).toNat : Nat) : Int) := by
  unfold Go.bits
  show IntKind.i64.wrap (((BitVec.ofInt 64 x) &&& (BitVec.ofInt 64 y)).toNat : Int) = _
  rw [BitVec.toNat_and]
theorem and_one (x : Int) : 0 ≤ Go.bits .and .i64 x 1 ∧ Go.bits .and .i64 x 1 ≤ 1 := by
  rw [and_nat]
  have e1 : (BitVec.ofInt 64 1).toNat = 1 := by decide
  rw [e1, Nat.and_one_is_mod, IntKind.wrap_i64]
  omega
theorem and_zero (x : Int) : Go.bits .and .i64 x 0 = 0 := by
  rw [and_nat]
  have e1 : (BitVec.ofInt 64 0).toNat = 0 := by decide
  rw [e1, Nat.and_zero]
  rfl
theorem zero_and (x : Int) : Go.bits .and .i64 0 x = 0 := by
  rw [and_nat]
  have e1 : (BitVec.ofInt 64 0).toNat = 0 := by decide
  rw [e1, Nat.zero_and]
  rfl
theorem round_is (o came goes en : Int) (h0 : 0 ≤ o) (h1 : o ≤ came) (h2 : came ≤ goes) (h3 : goes ≤ en) (h4 : en ≤ o + 12884901888) (p0 p1 p2 p3 p4 p5 p6 p7 p8 p9 p10 p11 p12 p13 p14 p15 : Int) :
    ∃ off dl, head_Round.f p0 p1 p2 p3 p4 p5 p6 p7 p8 p9 p10 p11 p12 p13 p14 p15 (SA o) (SB o) (SA came) (SB came) (SA goes) (SB goes) (SA en) (SB en) = some (off, dl) ∧ 0 ≤ dl ∧ dl ≤ 1000000000000 ∧ 2 * off ≤ dl + 1 ∧ -dl - 1 ≤ 2 * off := by
  have m1 := GG_mono h0 h1
  have m2 := GG_mono (by omega : (0 : Int) ≤ came) h2
  have m3 := GG_mono (by omega : (0 : Int) ≤ goes) h3
  have m4 := GG_near h0 h4
  unfold head_Round.f
  rw [sub_is came o (by omega), sub_is goes en (by omega), sub_is en o (by omega), sub_is goes came (by omega)]
  simp only [Option.bind_some]
  refine ⟨_, _, rfl, ?_⟩
  have c0 := and_one (Go.bits .and .i64 (GG came - GG o) (GG goes - GG en))
  have c1 : GG goes - GG en = 0 → Go.bits .and .i64 (Go.bits .and .i64 (GG came - GG o) (GG goes - GG en)) 1 = 0 := fun h => by rw [h, and_zero, zero_and]
  generalize Go.bits .and .i64 (Go.bits .and .i64 (GG came - GG o) (GG goes - GG en)) 1 = c at c0 c1 ⊢
  generalize GG came = x1 at *
  generalize GG o = x0 at *
  generalize GG goes = x2 at *
  generalize GG en = x3 at *
  rw [wr (n := (x1 - x0) / 2 + (x2 - x3) / 2) (by omega), wr (n := (x1 - x0) / 2 + (x2 - x3) / 2 + c) (by omega), wr (n := x3 - x0 - (x2 - x1)) (by omega)]
  by_cases hz : x2 - x3 = 0
  · have := c1 hz
    omega
  · omega
end Go.Proofs.Ytlaaofbmnaekoaa.MWholeClient
