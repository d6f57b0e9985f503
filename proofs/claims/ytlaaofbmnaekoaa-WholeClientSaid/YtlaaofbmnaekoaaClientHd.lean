/- A message's head: its cells, its parts. -/
import Derived.Test.YtlaaofbmnaekoaaClientCfg
namespace Go.Proofs.Ytlaaofbmnaekoaa.MWholeClient
open Go.RowKit Go.Proofs.YtlaaofbmnaekoaaW.PrintWords Go.Proofs.YtlaaofbmnaekoaaW.PrintLast Go.Proofs.YtlaaofbmnaekoaaW.PrintMore Go.Proofs.Ytlaaofbmnaekoaa.Base
set_option linter.unusedVariables false
set_option linter.unusedSimpArgs false

structure HD where
  lp : Int
  vn : Int
  md : Int
  st : Int
  pl : Int
  pr : Int
  d0 : Int
  d1 : Int
  e0 : Int
  e1 : Int
  r0 : Int
  r1 : Int
  r2 : Int
  r3 : Int
  a0 : Int
  a1 : Int
  b0 : Int
  b1 : Int
  c0 : Int
  c1 : Int
  t0 : Int
  t1 : Int
def H22 (lp vn md st pl pr d0 d1 e0 e1 r0 r1 r2 r3 a0 a1 b0 b1 c0 c1 t0 t1 : Int) : Array Value := #[.int .i64 lp, .int .i64 vn, .int .i64 md, .int .u8 st, .int .i8 pl, .int .i8 pr, .int .u16 d0, .int .u16 d1, .int .u16 e0, .int .u16 e1, .int .u8 r0, .int .u8 r1, .int .u8 r2, .int .u8 r3, .int .u32 a0, .int .u32 a1, .int .u32 b0, .int .u32 b1, .int .u32 c0, .int .u32 c1, .int .u32 t0, .int .u32 t1]
def HD.cs (x : HD) : Array Value := H22 x.lp x.vn x.md x.st x.pl x.pr x.d0 x.d1 x.e0 x.e1 x.r0 x.r1 x.r2 x.r3 x.a0 x.a1 x.b0 x.b1 x.c0 x.c1 x.t0 x.t1
def Z22 : Array Value := H22 0 0 0 0 0 0 0 0 0 0 0 0 0 0 0 0 0 0 0 0 0 0
theorem h22_one (lp vn md st pl pr d0 d1 e0 e1 r0 r1 r2 r3 a0 a1 b0 b1 c0 c1 t0 t1 : Int) : (H22 lp vn md st pl pr d0 d1 e0 e1 r0 r1 r2 r3 a0 a1 b0 b1 c0 c1 t0 t1).all (·.oneCell') = true := by simp [H22, Value.oneCell']
/-- A stamp of four: its seconds, its fraction. -/
def HD.sp (x : HD) : Nat → Int × Int
  | 0 => (x.a0, x.a1)
  | 1 => (x.b0, x.b1)
  | 2 => (x.c0, x.c1)
  | _ => (x.t0, x.t1)
/-- The head when so many of its stamps are there. -/
def HD.upto (x : HD) : Nat → Array Value
  | 0 => H22 x.lp x.vn x.md x.st x.pl x.pr x.d0 x.d1 x.e0 x.e1 x.r0 x.r1 x.r2 x.r3 0 0 0 0 0 0 0 0
  | 1 => H22 x.lp x.vn x.md x.st x.pl x.pr x.d0 x.d1 x.e0 x.e1 x.r0 x.r1 x.r2 x.r3 x.a0 x.a1 0 0 0 0 0 0
  | 2 => H22 x.lp x.vn x.md x.st x.pl x.pr x.d0 x.d1 x.e0 x.e1 x.r0 x.r1 x.r2 x.r3 x.a0 x.a1 x.b0 x.b1 0 0 0 0
  | 3 => H22 x.lp x.vn x.md x.st x.pl x.pr x.d0 x.d1 x.e0 x.e1 x.r0 x.r1 x.r2 x.r3 x.a0 x.a1 x.b0 x.b1 x.c0 x.c1 0 0
  | _ => x.cs
theorem mid_c {w : World} {ba cp : Nat} {al : List Int} (hC : Kd.C (Kd.int .u8) w (some ⟨ba, 0, none⟩) al.length al) (hc : al.length ≤ cp) (lo hi : Nat) (h1 : lo ≤ hi) (h2 : hi ≤ al.length) (h3 : lo < cp) :
    Kd.C (Kd.int .u8) w (some ⟨ba, lo, none⟩) ((al.take hi).drop lo).length ((al.take hi).drop lo) := by
  have h := Kd.C_mid hC h1 h2 hc
  rw [if_neg (by omega)] at h
  have e : (⟨ba, 0, none⟩ : Addr).add (lo * (Kd.int .u8).sz) = ⟨ba, lo, none⟩ := by
    have hz : (Kd.int .u8).sz = 1 := rfl
    rw [hz, Nat.mul_one, Addr.add_mid, Nat.zero_add]
  have e2 : Option.map (fun x : Addr => x.add (lo * (Kd.int .u8).sz)) (some ⟨ba, 0, none⟩) = some ⟨ba, lo, none⟩ := congrArg some e
  first | rwa [e2] at h | (simp only [Option.map_some, e] at h; exact h)
theorem mid_len {al : List Int} (h : al.length = 48) (lo hi n : Nat) (h1 : lo ≤ hi) (h2 : hi ≤ 48) (hn : n = hi - lo) : ((al.take hi).drop lo).length = n := by
  simp only [List.length_drop, List.length_take]; omega
theorem upto_put (x : HD) : ∀ k : Nat, k < 4 → putl (x.upto k) (14 + 2 * k) [.int .u32 (x.sp k).1, .int .u32 (x.sp k).2] = x.upto (k + 1)
  | 0, _ => rfl
  | 1, _ => rfl
  | 2, _ => rfl
  | 3, _ => rfl
  | k + 4, h => by omega
theorem upto_size (x : HD) : ∀ k : Nat, (x.upto k).size = 22
  | 0 => rfl
  | 1 => rfl
  | 2 => rfl
  | 3 => rfl
  | _ + 4 => rfl
theorem short_mid (kk : Nat) {w W : World} {ba cp : Nat} {al : List Int} (hC : Kd.C (Kd.int .u8) w (some ⟨ba, 0, none⟩) al.length al) (hal : al.length = 48) (hc : al.length ≤ cp) (hb : Below w.heap.size w W) (lo hi n : Nat) (hn : lo + n = hi) (h48 : hi ≤ 48) (hp : 0 < n) {a b : Int}
    (h : stamp_ParseShort.f kk ((al.take hi).drop lo) = some (a, b, none)) : Calls Try.prog 35 #[.slice (some ⟨ba, lo, none⟩) n (cp - lo)] W fun e w' => e = .returned (.tuple #[.agg #[.int .u16 a, .int .u16 b], .nilIface]) ∧ Below W.heap.size W w' := by
  have hl := mid_len hal lo hi n (by omega) h48 (by omega)
  have q := stamp_ParseShort.calls kk (some ⟨ba, lo, none⟩) (cp - lo) ((al.take hi).drop lo) a b none W (Kd.C_below (mid_c hC hc lo hi (by omega) (by omega) (by omega)) hb) (by omega) h
  rw [hl] at q
  exact q
theorem long_mid (kk : Nat) {w W : World} {ba cp : Nat} {al : List Int} (hC : Kd.C (Kd.int .u8) w (some ⟨ba, 0, none⟩) al.length al) (hal : al.length = 48) (hc : al.length ≤ cp) (hb : Below w.heap.size w W) (lo hi n : Nat) (hn : lo + n = hi) (h48 : hi ≤ 48) (hp : 0 < n) {a b : Int}
    (h : stamp_Parse.f kk ((al.take hi).drop lo) = some (a, b, none)) : Calls Try.prog 37 #[.slice (some ⟨ba, lo, none⟩) n (cp - lo)] W fun e w' => e = .returned (.tuple #[.agg #[.int .u32 a, .int .u32 b], .nilIface]) ∧ Below W.heap.size W w' := by
  have hl := mid_len hal lo hi n (by omega) h48 (by omega)
  have q := stamp_Parse.calls kk (some ⟨ba, lo, none⟩) (cp - lo) ((al.take hi).drop lo) a b none W (Kd.C_below (mid_c hC hc lo hi (by omega) (by omega) (by omega)) hb) (by omega) h
  rw [hl] at q
  exact q
end Go.Proofs.Ytlaaofbmnaekoaa.MWholeClient
