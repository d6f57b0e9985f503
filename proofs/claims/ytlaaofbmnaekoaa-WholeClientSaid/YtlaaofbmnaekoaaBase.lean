/- Words on whole numbers, shared by the proofs of this seat: wraps, sums that may be too great, masks. No condition. -/
import Derived.Test.YtlaaofbmnaekoaaWMore
import Derived.OpenShut
import Derived.IntWalk
import Derived.KernelRfl
import Derived.Laws.BitsLemmas
namespace Go.Proofs.Ytlaaofbmnaekoaa.Base
open Go.RowKit Go.Proofs.YtlaaofbmnaekoaaW.PrintWords Go.Proofs.YtlaaofbmnaekoaaW.PrintLast Go.Proofs.YtlaaofbmnaekoaaW.PrintMore

/-- A number of 64 bits with a sign. -/
def I64 (x : Int) : Prop := -9223372036854775808 ≤ x ∧ x ≤ 9223372036854775807
instance (x : Int) : Decidable (I64 x) := inferInstanceAs (Decidable (_ ∧ _))
theorem i64_of {a : Int} (h : (Lit.int .i64 a).wf = true) : I64 a := bounds_i64 h
theorem wrap64_id {n : Int} (h : I64 n) : wrap64 n = n := by unfold I64 at h; unfold wrap64; omega
theorem wrap64_I64 (n : Int) : I64 (wrap64 n) := by unfold I64 wrap64; omega
theorem wrap_u64 (n : Int) : IntKind.u64.wrap n = n % 18446744073709551616 := by simp [IntKind.wrap, IntKind.bits, IntKind.signed]
theorem wrap_u32 (n : Int) : IntKind.u32.wrap n = n % 4294967296 := by simp [IntKind.wrap, IntKind.bits, IntKind.signed]
theorem wrap_u16 (n : Int) : IntKind.u16.wrap n = n % 65536 := by simp [IntKind.wrap, IntKind.bits, IntKind.signed]
theorem wrap_i64 (n : Int) : IntKind.i64.wrap n = wrap64 n := i64_w n

/-- A number, or 'too great'. -/
def ovf (x : Int) : Int × Option Int := if I64 x then (x, none) else (0, some 5)
theorem ovf_in {x : Int} (h : I64 x) : ovf x = (x, none) := by unfold ovf; rw [if_pos h]
theorem ovf_out {x : Int} (h : ¬ I64 x) : ovf x = (0, some 5) := by unfold ovf; rw [if_neg h]

theorem Ev.ite {α : Type} {c : Prop} [Decidable c] {g f : Nat → Option α} {r : α} (h : c → Ev g r) (k : ¬ c → Ev f r) : Ev (fun n => if c then g n else f n) r := by
  by_cases hc : c
  · simp only [if_pos hc]; exact h hc
  · simp only [if_neg hc]; exact k hc
theorem Ev.pos {α : Type} {c : Prop} [Decidable c] {g f : Nat → Option α} {r : α} (h : c) (k : Ev g r) : Ev (fun n => if c then g n else f n) r := by simp only [if_pos h]; exact k
theorem Ev.neg {α : Type} {c : Prop} [Decidable c] {g f : Nat → Option α} {r : α} (h : ¬ c) (k : Ev f r) : Ev (fun n => if c then g n else f n) r := by simp only [if_neg h]; exact k
theorem Ev.some {α : Type} (r : α) : Ev (fun _ => some r) r := Ev.now r
theorem Ev.cast {α : Type} {g : Nat → Option α} {r q : α} (h : Ev g r) (e : r = q) : Ev g q := e ▸ h
theorem Ev.up {α : Type} {g : Nat → Option α} {r : α} (h : Ev (fun k => g (k + 1)) r) : Ev g r := Ev.step (fun _ => rfl) h
theorem Ev.const {α : Type} {x : Option α} {r : α} (h : x = .some r) : Ev (fun _ => x) r := ⟨0, fun _ _ => h⟩
theorem Ev.bindc {α β : Type} {x : Option α} {f : Nat → α → Option β} {a : α} {r : β} (h : x = .some a) (k : Ev (fun n => f n a) r) : Ev (fun n => x.bind (f n)) r := Ev.bind (Ev.const h) k
theorem Ev.ok {α : Type} {g : Nat → Option α} {r : α} (h : Ev g r) : ∃ k, g k = .some r := Ev.rounds h

theorem pow_pos2 (n : Nat) : (0 : Int) < 2 ^ n := Int.pow_pos (by decide)
theorem pow_le_of {m n : Nat} (h : m ≤ n) : (2 : Int) ^ m ≤ 2 ^ n := by
  have := Nat.pow_le_pow_right (n := 2) (by decide) h
  exact_mod_cast this
theorem pow_succ2 (n : Nat) : (2 : Int) ^ (n + 1) = 2 * 2 ^ n := by rw [Int.pow_succ]; omega
theorem pow62 {n : Nat} (h : n ≤ 62) : (2 : Int) ^ n ≤ 4611686018427387904 := pow_le_of h
theorem shl_u64 {n : Int} (h0 : 0 ≤ n) (h : n ≤ 62) : shl .u64 1 n = 2 ^ n.toNat := by
  unfold shl
  have e : min n.toNat IntKind.u64.bits = n.toNat := Nat.min_eq_left (by simp [IntKind.bits]; omega)
  have := pow62 (n := n.toNat) (by omega)
  have := pow_pos2 n.toNat
  rw [e, wrap_u64]; omega
theorem shl_i64 {n : Int} (h0 : 0 ≤ n) (h : n ≤ 62) : shl .i64 1 n = 2 ^ n.toNat := by
  unfold shl
  have e : min n.toNat IntKind.i64.bits = n.toNat := Nat.min_eq_left (by simp [IntKind.bits]; omega)
  have := pow62 (n := n.toNat) (by omega)
  have := pow_pos2 n.toNat
  rw [e, wrap_i64, Int.one_mul, wrap64_id]
  unfold I64; omega
theorem and_mask {x : Int} (h0 : 0 ≤ x) (h : x < 18446744073709551616) {n : Nat} (hn : n ≤ 64) : Go.bits .and .u64 x (2 ^ n - 1) = x % 2 ^ n :=
  bits_mask .u64 64 (by simp [IntKind.bits]) (fun m a b => by rw [wrap_u64]; omega) n hn x h0 (by omega)
theorem pow_dvd64 {n : Nat} (h : n ≤ 64) : (2 : Int) ^ n ∣ 18446744073709551616 := by
  have e : (18446744073709551616 : Int) = 2 ^ n * 2 ^ (64 - n) := by
    rw [← Int.pow_add, show n + (64 - n) = 64 by omega]; rfl
  exact ⟨_, e⟩
theorem mod_mod64 (x : Int) {n : Nat} (h : n ≤ 64) : x % 18446744073709551616 % 2 ^ n = x % 2 ^ n := Int.emod_emod_of_dvd x (pow_dvd64 h)
theorem tmod_is (x c : Int) : Int.tmod x c = if x < 0 then -((-x) % c) else x % c := by
  by_cases h : x < 0
  · have e : x = -(-x) := by omega
    rw [if_pos h, e, Int.neg_tmod, Int.tmod_eq_emod_of_nonneg (by omega), ← e]
  · rw [if_neg h, Int.tmod_eq_emod_of_nonneg (by omega)]
theorem tdiv_is (x c : Int) : Int.tdiv x c = if x < 0 then -((-x) / c) else x / c := by
  by_cases h : x < 0
  · have e : x = -(-x) := by omega
    rw [if_pos h, e, Int.neg_tdiv, Int.tdiv_eq_ediv_of_nonneg (by omega), ← e]
  · rw [if_neg h, Int.tdiv_eq_ediv_of_nonneg (by omega)]
theorem wr {n : Int} (h : -9223372036854775808 ≤ n ∧ n ≤ 9223372036854775807) : wrap64 n = n := wrap64_id h
end Go.Proofs.Ytlaaofbmnaekoaa.Base
