/-
  Scripts as bytes: what is encoded is decoded as it was.
-/
import Derived.Test.YtecbahciplnhfaaScriptDec
namespace Go.Proofs.Ytecbahciplnhfaa
set_option linter.unusedVariables false
set_option linter.unusedSimpArgs false
open Go.RowKit Go.Proofs.YtecbahciplnhfaaW.PrintWords Go.Proofs.YtecbahciplnhfaaW.PrintLast Go.Proofs.YtecbahciplnhfaaW.PrintMore Go.Proofs.Ytecbahciplnhfaa.MScriptBytes Go.Proofs.Ytecbahciplnhfaa.Base
/-- A number's bytes, the great one first. -/
def BE : Nat → Int → List Int
  | 0, _ => []
  | m + 1, v => (v / 256 ^ m) % 256 :: BE m v
theorem BE_length : ∀ m v, (BE m v).length = m
  | 0, _ => rfl
  | m + 1, v => by simp [BE, BE_length m v]
theorem BE_bytes : ∀ m v, Bytes (BE m v)
  | 0, _ => fun _ h => by cases h
  | m + 1, v => fun x hx => by
    rcases List.mem_cons.1 hx with rfl | h
    · unfold Byte; omega
    · exact BE_bytes m v x h
theorem shr8 (x : Int) (j : Nat) (hj : j < 8) : shr .u64 x (wrap64 (8 * (j : Int))) = x / 256 ^ j := by
  have e : wrap64 (8 * (j : Int)) = ((8 * j : Nat) : Int) := by unfold wrap64; omega
  rw [e]
  unfold shr
  rw [Int.toNat_natCast, Nat.min_eq_left (by show 8 * j ≤ 64; omega), Int.pow_mul]
  rfl
theorem size16_is : Ev (fun k => octets_Size_uint16.f k) 2 := Ev.of (fun k => octets_Size_uint16.mono k) (k := 20) (by kernel_rfl)
theorem size32_is : Ev (fun k => octets_Size_uint32.f k) 4 := Ev.of (fun k => octets_Size_uint32.mono k) (k := 20) (by kernel_rfl)
theorem size64_is : Ev (fun k => octets_Size_uint64.f k) 8 := Ev.of (fun k => octets_Size_uint64.mono k) (k := 20) (by kernel_rfl)
theorem put_uint16_inner {s x n i : Int} {xs : List Int} {r : List Int} (hx : 0 ≤ x ∧ x < 18446744073709551616) : ∀ (j : Nat) (l : List Int), j < 8 → l.length + j < 70368744177664 → Ev (fun k => octets_Put_uint16.l0 k s (l ++ BE (j + 1) x) xs n (wrap64 (i + 1))) r →
    Ev (fun k => octets_Put_uint16.l1 k s l x (j : Int) xs n i) r := by
  have hw : IntKind.u64.wrap x = x := by rw [wrap_u64]; omega
  intro j
  induction j with
  | zero =>
    intro l hj hl h
    have e := shr8 x 0 hj
    refine Ev.up ?_
    simp only [octets_Put_uint16.l1]
    refine Ev.pos (by omega) (Ev.pos (by unfold wrap64; omega) (Ev.pos (by omega) ?_))
    try rw [hw]
    rw [e, show wrap64 (((0 : Nat) : Int) - 1) = -1 by unfold wrap64; omega]
    refine Ev.up ?_
    simp only [octets_Put_uint16.l1]
    exact Ev.neg (by decide) h
  | succ j ih =>
    intro l hj hl h
    have e := shr8 x (j + 1) hj
    refine Ev.up ?_
    simp only [octets_Put_uint16.l1]
    refine Ev.pos (by omega) (Ev.pos (by unfold wrap64; omega) (Ev.pos (by omega) ?_))
    try rw [hw]
    rw [e, show wrap64 (((j + 1 : Nat) : Int) - 1) = (j : Int) by unfold wrap64; omega]
    refine ih _ (by omega) (by simp; omega) ?_
    rw [List.append_assoc]
    exact h
theorem put_uint16_is {l : List Int} {p : Int} (hp : 0 ≤ p ∧ p < 18446744073709551616) (hl : l.length < 35184372088832) : Ev (fun k => octets_Put_uint16.f k l [p]) (l ++ BE 2 p) := by
  unfold octets_Put_uint16.f
  refine Ev.bind size16_is ?_
  have hcl : slices_Clone_byte_byte.f l = some l := by unfold slices_Clone_byte_byte.f; rw [if_pos (by omega)]
  refine Ev.bindc hcl (Ev.up ?_)
  simp only [octets_Put_uint16.l0]
  refine Ev.pos (by simp) (Ev.pos (by decide) (Ev.pos (by simp) ?_))
  rw [show rd [p] 0 = p from rfl, show wrap64 (2 - 1) = ((1 : Nat) : Int) by unfold wrap64; omega]
  refine put_uint16_inner hp 1 l (by decide) (by omega) ?_
  rw [show wrap64 (0 + 1) = 1 by unfold wrap64; omega]
  refine Ev.up ?_
  simp only [octets_Put_uint16.l0]
  exact Ev.neg (by simp) (Ev.now _)
theorem put_uint32_inner {s x n i : Int} {xs : List Int} {r : List Int} (hx : 0 ≤ x ∧ x < 18446744073709551616) : ∀ (j : Nat) (l : List Int), j < 8 → l.length + j < 70368744177664 → Ev (fun k => octets_Put_uint32.l0 k s (l ++ BE (j + 1) x) xs n (wrap64 (i + 1))) r →
    Ev (fun k => octets_Put_uint32.l1 k s l x (j : Int) xs n i) r := by
  have hw : IntKind.u64.wrap x = x := by rw [wrap_u64]; omega
  intro j
  induction j with
  | zero =>
    intro l hj hl h
    have e := shr8 x 0 hj
    refine Ev.up ?_
    simp only [octets_Put_uint32.l1]
    refine Ev.pos (by omega) (Ev.pos (by unfold wrap64; omega) (Ev.pos (by omega) ?_))
    try rw [hw]
    rw [e, show wrap64 (((0 : Nat) : Int) - 1) = -1 by unfold wrap64; omega]
    refine Ev.up ?_
    simp only [octets_Put_uint32.l1]
    exact Ev.neg (by decide) h
  | succ j ih =>
    intro l hj hl h
    have e := shr8 x (j + 1) hj
    refine Ev.up ?_
    simp only [octets_Put_uint32.l1]
    refine Ev.pos (by omega) (Ev.pos (by unfold wrap64; omega) (Ev.pos (by omega) ?_))
    try rw [hw]
    rw [e, show wrap64 (((j + 1 : Nat) : Int) - 1) = (j : Int) by unfold wrap64; omega]
    refine ih _ (by omega) (by simp; omega) ?_
    rw [List.append_assoc]
    exact h
theorem put_uint32_is {l : List Int} {p : Int} (hp : 0 ≤ p ∧ p < 18446744073709551616) (hl : l.length < 35184372088832) : Ev (fun k => octets_Put_uint32.f k l [p]) (l ++ BE 4 p) := by
  unfold octets_Put_uint32.f
  refine Ev.bind size32_is ?_
  have hcl : slices_Clone_byte_byte.f l = some l := by unfold slices_Clone_byte_byte.f; rw [if_pos (by omega)]
  refine Ev.bindc hcl (Ev.up ?_)
  simp only [octets_Put_uint32.l0]
  refine Ev.pos (by simp) (Ev.pos (by decide) (Ev.pos (by simp) ?_))
  rw [show rd [p] 0 = p from rfl, show wrap64 (4 - 1) = ((3 : Nat) : Int) by unfold wrap64; omega]
  refine put_uint32_inner hp 3 l (by decide) (by omega) ?_
  rw [show wrap64 (0 + 1) = 1 by unfold wrap64; omega]
  refine Ev.up ?_
  simp only [octets_Put_uint32.l0]
  exact Ev.neg (by simp) (Ev.now _)
theorem put_uint64_inner {s x n i : Int} {xs : List Int} {r : List Int} (hx : 0 ≤ x ∧ x < 18446744073709551616) : ∀ (j : Nat) (l : List Int), j < 8 → l.length + j < 70368744177664 → Ev (fun k => octets_Put_uint64.l0 k s (l ++ BE (j + 1) x) xs n (wrap64 (i + 1))) r →
    Ev (fun k => octets_Put_uint64.l1 k s l x (j : Int) xs n i) r := by
  have hw : IntKind.u64.wrap x = x := by rw [wrap_u64]; omega
  intro j
  induction j with
  | zero =>
    intro l hj hl h
    have e := shr8 x 0 hj
    refine Ev.up ?_
    simp only [octets_Put_uint64.l1]
    refine Ev.pos (by omega) (Ev.pos (by unfold wrap64; omega) (Ev.pos (by omega) ?_))
    try rw [hw]
    rw [e, show wrap64 (((0 : Nat) : Int) - 1) = -1 by unfold wrap64; omega]
    refine Ev.up ?_
    simp only [octets_Put_uint64.l1]
    exact Ev.neg (by decide) h
  | succ j ih =>
    intro l hj hl h
    have e := shr8 x (j + 1) hj
    refine Ev.up ?_
    simp only [octets_Put_uint64.l1]
    refine Ev.pos (by omega) (Ev.pos (by unfold wrap64; omega) (Ev.pos (by omega) ?_))
    try rw [hw]
    rw [e, show wrap64 (((j + 1 : Nat) : Int) - 1) = (j : Int) by unfold wrap64; omega]
    refine ih _ (by omega) (by simp; omega) ?_
    rw [List.append_assoc]
    exact h
theorem put_uint64_is {l : List Int} {p : Int} (hp : 0 ≤ p ∧ p < 18446744073709551616) (hl : l.length < 35184372088832) : Ev (fun k => octets_Put_uint64.f k l [p]) (l ++ BE 8 p) := by
  unfold octets_Put_uint64.f
  refine Ev.bind size64_is ?_
  have hcl : slices_Clone_byte_byte.f l = some l := by unfold slices_Clone_byte_byte.f; rw [if_pos (by omega)]
  refine Ev.bindc hcl (Ev.up ?_)
  simp only [octets_Put_uint64.l0]
  refine Ev.pos (by simp) (Ev.pos (by decide) (Ev.pos (by simp) ?_))
  rw [show rd [p] 0 = p from rfl, show wrap64 (8 - 1) = ((7 : Nat) : Int) by unfold wrap64; omega]
  refine put_uint64_inner hp 7 l (by decide) (by omega) ?_
  rw [show wrap64 (0 + 1) = 1 by unfold wrap64; omega]
  refine Ev.up ?_
  simp only [octets_Put_uint64.l0]
  exact Ev.neg (by simp) (Ev.now _)
theorem put_two {l : List Int} {p q : Int} (hp : 0 ≤ p ∧ p < 18446744073709551616) (hq : 0 ≤ q ∧ q < 18446744073709551616) (hl : l.length < 35184372088832) : Ev (fun k => octets_Put_uint16.f k l [p, q]) (l ++ (BE 2 p ++ BE 2 q)) := by
  unfold octets_Put_uint16.f
  refine Ev.bind size16_is ?_
  have hcl : slices_Clone_byte_byte.f l = some l := by unfold slices_Clone_byte_byte.f; rw [if_pos (by omega)]
  refine Ev.bindc hcl (Ev.up ?_)
  simp only [octets_Put_uint16.l0]
  refine Ev.pos (by simp) (Ev.pos (by decide) (Ev.pos (by simp) ?_))
  rw [show rd [p, q] 0 = p from rfl, show wrap64 (2 - 1) = ((1 : Nat) : Int) by unfold wrap64; omega]
  refine put_uint16_inner hp 1 l (by decide) (by omega) ?_
  rw [show wrap64 (0 + 1) = 1 by unfold wrap64; omega]
  refine Ev.up ?_
  simp only [octets_Put_uint16.l0]
  refine Ev.pos (by simp) (Ev.pos (by decide) (Ev.pos (by simp) ?_))
  rw [show rd [p, q] 1 = q from rfl, show wrap64 (2 - 1) = ((1 : Nat) : Int) by unfold wrap64; omega]
  refine put_uint16_inner hq 1 _ (by decide) (by simp [BE_length]; omega) ?_
  rw [show wrap64 (1 + 1) = 2 by unfold wrap64; omega]
  refine Ev.up ?_
  simp only [octets_Put_uint16.l0]
  exact Ev.neg (by simp) (Ev.cast (Ev.now _) (by simp))
theorem NV_BE1 (v : Int) (r : List Int) (h : 0 ≤ v ∧ v < 256) : NV (BE 1 v ++ r) 1 = v := by simp [NV, BE]; omega
theorem NV_BE2 (v : Int) (r : List Int) (h : 0 ≤ v ∧ v < 65536) : NV (BE 2 v ++ r) 2 = v := by simp [NV, BE]; omega
theorem NV_BE4 (v : Int) (r : List Int) (h : 0 ≤ v ∧ v < 4294967296) : NV (BE 4 v ++ r) 4 = v := by simp [NV, BE]; omega
theorem NV_BE8 (v : Int) (r : List Int) (h : 0 ≤ v ∧ v < 18446744073709551616) : NV (BE 8 v ++ r) 8 = v := by simp [NV, BE]; omega
/-- Which acts there are. -/
structure okA (x : S33) : Prop where
  k1 : 1 ≤ x.f0
  k4 : x.f0 ≤ 4
  n : 0 ≤ x.f1 ∧ x.f1 ≤ 255
  s : 0 ≤ x.f4 ∧ x.f4 ≤ 65535
  p : 0 ≤ x.f5 ∧ x.f5 ≤ 65535
  l : x.f6.length ≤ 65535
  z1 : x.f0 ≠ 1 → x.f1 = 0
  z2 : x.f0 ≠ 2 → x.f2 = 0
  z3 : x.f0 ≠ 3 → x.f3 = 0 ∧ x.f4 = 0 ∧ x.f5 = 0
  z6 : x.f0 ≠ 1 → x.f0 ≠ 3 → x.f6 = []
/-- What a value of the type is held to. -/
structure wfA (x : S33) : Prop where
  r : 0 ≤ x.f2 ∧ x.f2 < 18446744073709551616
  f : 0 ≤ x.f3 ∧ x.f3 < 4294967296
  b : Bytes x.f6
def encA (x : S33) : List Int :=
  if x.f0 = 1 then [0, x.f1] ++ (BE 2 x.f6.length ++ x.f6)
  else if x.f0 = 2 then [1] ++ BE 8 x.f2
  else if x.f0 = 3 then [2] ++ (BE 4 x.f3 ++ (BE 2 x.f4 ++ (BE 2 x.f5 ++ (BE 2 x.f6.length ++ x.f6))))
  else [3]
theorem encA_len {x : S33} (h : okA x) : (encA x).length ≤ 65550 := by
  have hl := h.l
  unfold encA
  split
  · simp [BE_length]; omega
  · split
    · simp [BE_length]
    · split
      · simp [BE_length]; omega
      · simp
theorem text_is {l b : List Int} (hb : b.length ≤ 65535) (hl : l.length < 17592186044416) : Ev (fun k => script_text.f k l b) (l ++ (BE 2 b.length ++ b)) := by
  unfold script_text.f
  have e : IntKind.u16.wrap (b.length : Int) = (b.length : Int) := by rw [wrap_u16]; omega
  rw [e]
  refine Ev.bind (put_uint16_is (by omega) (by omega)) (Ev.pos (by simp [BE_length]; omega) (Ev.cast (Ev.now _) (by simp)))
theorem encode_is {x : S33} (h : okA x) (w : wfA x) {l : List Int} (hl : l.length < 8796093022208) : Ev (fun k => script_Act_encode.f k x.f0 x.f1 x.f2 x.f3 x.f4 x.f5 x.f6 l) (l ++ encA x) := by
  have e0 : wrap64 (x.f0 - 1) % 256 = x.f0 - 1 := by have := h.k1; have := h.k4; unfold wrap64; omega
  have e1 : x.f1 % 256 = x.f1 := by have := h.n; omega
  have e4 : IntKind.u16.wrap x.f4 = x.f4 := by have := h.s; rw [wrap_u16]; omega
  have e5 : IntKind.u16.wrap x.f5 = x.f5 := by have := h.p; rw [wrap_u16]; omega
  unfold script_Act_encode.f encA
  rw [e0, e1, e4, e5]
  refine Ev.pos (by omega) (Ev.bindc rfl ?_)
  by_cases k1 : x.f0 = 1
  · rw [if_pos k1, k1]
    refine Ev.pos rfl (Ev.pos (by simp; omega) (Ev.bind (text_is h.l (by simp; omega)) (Ev.cast (Ev.now _) (by simp))))
  · refine Ev.neg k1 ?_
    rw [if_neg k1]
    by_cases k2 : x.f0 = 2
    · rw [if_pos k2, k2]
      refine Ev.pos rfl (Ev.bind (put_uint64_is w.r (by simp; omega)) (Ev.cast (Ev.now _) (by simp)))
    · refine Ev.neg k2 ?_
      rw [if_neg k2]
      by_cases k3 : x.f0 = 3
      · rw [if_pos k3, k3]
        have hf := w.f
        have hs := h.s
        have hp := h.p
        refine Ev.pos rfl (Ev.bind (put_uint32_is (by omega) (by simp; omega)) (Ev.bind (put_two (by omega) (by omega) (by simp [BE_length]; omega)) (Ev.bind (text_is h.l (by simp [BE_length]; omega)) (Ev.cast (Ev.now _) (by simp)))))
      · refine Ev.neg k3 ?_
        rw [if_neg k3]
        have : x.f0 = 4 := by have := h.k1; have := h.k4; omega
        exact Ev.cast (Ev.now _) (by rw [this]; rfl)
theorem in_f (a b : Int) : script_in.f a b = some (decide (0 ≤ a ∧ a ≤ b)) := by
  unfold script_in.f
  by_cases h : a ≥ 0
  · rw [if_pos h]; congr 1; by_cases g : a ≤ b <;> simp [g, h]
  · rw [if_neg h]; congr 1; simp; omega
theorem str_inj {l : List Int} (h : Bytes l) : ((strOfNums l).toList == (strOfNums ([] : List Int)).toList) = true ↔ l = [] := by
  constructor
  · intro e
    have e2 := eq_of_beq e
    cases l with
    | nil => rfl
    | cons a l => exact absurd (congrArg List.length e2) (by simp [strOfNums])
  · rintro rfl
    simp
/-- The part of an act that its kind doesn't have is nought. -/
def zer (x : S33) : Prop := (x.f0 ≠ 1 → x.f1 = 0) ∧ (x.f0 ≠ 2 → x.f2 = 0) ∧ (x.f0 ≠ 3 → x.f3 = 0 ∧ x.f4 = 0 ∧ x.f5 = 0) ∧ (x.f0 ≠ 1 → x.f0 ≠ 3 → x.f6 = [])
theorem alike_zero (a b c d e f : Int) (l : List Int) (hl : Bytes l) : ∃ r, script_alike.f a b c d e f l a 0 0 0 0 0 ([] : List Int) = some r ∧ (r = true ↔ b = 0 ∧ c = 0 ∧ d = 0 ∧ e = 0 ∧ f = 0 ∧ l = []) := by
  unfold script_alike.f bytes_Equal.f
  rw [if_pos rfl]
  by_cases h1 : b = 0
  · rw [if_pos h1]
    by_cases h2 : c = 0
    · rw [if_pos h2]
      by_cases h3 : d = 0
      · rw [if_pos h3]
        by_cases h4 : e = 0
        · rw [if_pos h4]
          by_cases h5 : f = 0
          · rw [if_pos h5]
            refine ⟨_, rfl, ?_⟩
            rw [str_inj hl]
            simp [h1, h2, h3, h4, h5]
          · rw [if_neg h5]; exact ⟨false, rfl, by simp [h5]⟩
        · rw [if_neg h4]; exact ⟨false, rfl, by simp [h4]⟩
      · rw [if_neg h3]; exact ⟨false, rfl, by simp [h3]⟩
    · rw [if_neg h2]; exact ⟨false, rfl, by simp [h2]⟩
  · rw [if_neg h1]; exact ⟨false, rfl, by simp [h1]⟩
theorem Bytes.nil : Bytes [] := fun _ h => by cases h
theorem bare_is (x : S33) (w : wfA x) : ∃ r, ((script_Act_bare.f x.f0 x.f1 x.f2 x.f3 x.f4 x.f5 x.f6).bind fun bt => script_alike.f bt.1 bt.2.1 bt.2.2.1 bt.2.2.2.1 bt.2.2.2.2.1 bt.2.2.2.2.2.1 bt.2.2.2.2.2.2 x.f0 0 0 0 0 0 ([] : List Int)) = some r ∧ (r = true ↔ zer x) := by
  unfold script_Act_bare.f zer
  by_cases k1 : x.f0 = 1
  · rw [if_pos k1]
    obtain ⟨r, hr, h⟩ := alike_zero x.f0 0 x.f2 x.f3 x.f4 x.f5 [] Bytes.nil
    refine ⟨r, hr, h.trans ?_⟩
    simp [k1]
  · rw [if_neg k1]
    by_cases k2 : x.f0 = 2
    · rw [if_pos k2]
      obtain ⟨r, hr, h⟩ := alike_zero x.f0 x.f1 0 x.f3 x.f4 x.f5 x.f6 w.b
      refine ⟨r, hr, h.trans ?_⟩
      simp [k2, and_assoc]
    · rw [if_neg k2]
      by_cases k3 : x.f0 = 3
      · rw [if_pos k3]
        obtain ⟨r, hr, h⟩ := alike_zero x.f0 x.f1 x.f2 0 0 0 [] Bytes.nil
        refine ⟨r, hr, h.trans ?_⟩
        simp [k3]
      · rw [if_neg k3]
        obtain ⟨r, hr, h⟩ := alike_zero x.f0 x.f1 x.f2 x.f3 x.f4 x.f5 x.f6 w.b
        refine ⟨r, hr, h.trans ?_⟩
        simp [k1, k2, k3, and_assoc]
theorem check_j1 (x : S33) (w : wfA x) (b : Bool) : ∃ r, Ev (fun k => script_Check.j1 k b x.f0 x.f1 x.f2 x.f3 x.f4 x.f5 x.f6) r ∧ (r = none ↔ (b = false ∧ x.f6.length ≤ 65535 ∧ zer x)) := by
  cases b with
  | true =>
    refine ⟨some 1, Ev.up ?_, by simp⟩
    simp only [script_Check.j1]
    exact Ev.pos (by first | trivial | rfl) (Ev.now _)
  | false =>
    by_cases hl : (x.f6.length : Int) > 65535
    · refine ⟨some 3, Ev.up ?_, by simp; omega⟩
      simp only [script_Check.j1]
      exact Ev.neg (by decide) (Ev.pos hl (Ev.now _))
    · obtain ⟨r, hr, hz⟩ := bare_is x w
      obtain ⟨bt, hb, ha⟩ := Option.bind_eq_some_iff.1 hr
      cases r with
      | true =>
        refine ⟨none, Ev.up ?_, by simp; exact ⟨by omega, hz.1 rfl⟩⟩
        simp only [script_Check.j1]
        exact Ev.neg (by decide) (Ev.neg hl (Ev.bindc hb (Ev.bindc ha (Ev.pos (by first | trivial | rfl) (Ev.now _)))))
      | false =>
        refine ⟨some 2, Ev.up ?_, by simp; exact fun _ h => by have := hz.2 h; cases this⟩
        simp only [script_Check.j1]
        exact Ev.neg (by decide) (Ev.neg hl (Ev.bindc hb (Ev.bindc ha (Ev.neg (by decide) (Ev.now _)))))
theorem check_j0 (x : S33) (w : wfA x) (b : Bool) : ∃ r, Ev (fun k => script_Check.j0 k b x.f0 x.f1 x.f2 x.f3 x.f4 x.f5 x.f6) r ∧ (r = none ↔ (b = false ∧ (0 ≤ x.f1 ∧ x.f1 ≤ 255) ∧ (0 ≤ x.f4 ∧ x.f4 ≤ 65535) ∧ (0 ≤ x.f5 ∧ x.f5 ≤ 65535) ∧ x.f6.length ≤ 65535 ∧ zer x)) := by
  cases b with
  | true =>
    refine ⟨some 11, Ev.up ?_, by simp⟩
    simp only [script_Check.j0]
    exact Ev.pos (by first | trivial | rfl) (Ev.now _)
  | false =>
    obtain ⟨r, hr, h⟩ := check_j1 x w true
    by_cases h1 : 0 ≤ x.f1 ∧ x.f1 ≤ 255
    · by_cases h2 : 0 ≤ x.f4 ∧ x.f4 ≤ 65535
      · obtain ⟨r', hr', h'⟩ := check_j1 x w (!decide (0 ≤ x.f5 ∧ x.f5 ≤ 65535))
        refine ⟨r', Ev.up ?_, h'.trans ?_⟩
        · simp only [script_Check.j0]
          exact Ev.neg (by decide) (Ev.bindc (in_f _ _) (Ev.pos (by rw [decide_eq_true h1]) (Ev.bindc (in_f _ _) (Ev.pos (by rw [decide_eq_true h2]) (Ev.bindc (in_f _ _) hr')))))
        · simp [h1, h2]
      · refine ⟨r, Ev.up ?_, h.trans ?_⟩
        · simp only [script_Check.j0]
          exact Ev.neg (by decide) (Ev.bindc (in_f _ _) (Ev.pos (by rw [decide_eq_true h1]) (Ev.bindc (in_f _ _) (Ev.neg (by rw [decide_eq_false h2]; decide) hr))))
        · simp [h2]
    · refine ⟨r, Ev.up ?_, h.trans ?_⟩
      · simp only [script_Check.j0]
        exact Ev.neg (by decide) (Ev.bindc (in_f _ _) (Ev.neg (by rw [decide_eq_false h1]; decide) hr))
      · simp [h1]
theorem check_is (x : S33) (w : wfA x) : ∃ r, Ev (fun k => script_Check.f k x.f0 x.f1 x.f2 x.f3 x.f4 x.f5 x.f6) r ∧ (r = none ↔ okA x) := by
  unfold script_Check.f
  by_cases h1 : x.f0 < 1
  · obtain ⟨r, hr, h⟩ := check_j0 x w true
    refine ⟨r, Ev.pos h1 hr, h.trans ⟨fun h => by simp at h, fun h => by have := h.k1; omega⟩⟩
  · obtain ⟨r, hr, h⟩ := check_j0 x w (decide (x.f0 > 4))
    refine ⟨r, Ev.neg h1 hr, h.trans ⟨fun h => ?_, fun h => ?_⟩⟩
    · obtain ⟨a, b, c, d, e, z1, z2, z3, z6⟩ := h
      exact ⟨by omega, by have := of_decide_eq_false a; omega, b, c, d, e, z1, z2, z3, z6⟩
    · exact ⟨decide_eq_false (by have := h.k4; omega), h.n, h.s, h.p, h.l, h.z1, h.z2, h.z3, h.z6⟩
/-- Acts' bytes. -/
def encs : List S33 → List Int
  | [] => []
  | y :: ys => encA y ++ encs ys
theorem encs_len : ∀ ys : List S33, (∀ y ∈ ys, okA y) → (encs ys).length ≤ 65550 * ys.length
  | [], _ => by simp [encs]
  | y :: ys, h => by
    have h1 := encA_len (h y List.mem_cons_self)
    have h2 := encs_len ys (fun z hz => h z (List.mem_cons_of_mem _ hz))
    simp only [encs, List.length_append, List.length_cons]
    omega
theorem rd_at (pre ys : List S33) (y : S33) : rd_T33 (pre ++ y :: ys) (pre.length : Int) = y := by
  unfold rd_T33
  simp
theorem encode_l0 : ∀ (ys pre : List S33) (acc : List Int), (∀ y ∈ ys, wfA y) → (pre ++ ys).length ≤ 3000 → acc.length ≤ 65550 * pre.length →
    ∃ r, Ev (fun k => script_Encode.l0 k acc (pre ++ ys) ((pre ++ ys).length : Int) (pre.length : Int)) r ∧ ((∀ y ∈ ys, okA y) → r = (acc ++ encs ys, none)) ∧ (r.2 = none → ∀ y ∈ ys, okA y)
  | [], pre, acc, _, _, _ => by
    refine ⟨(acc, none), Ev.up ?_, fun _ => by simp [encs], fun _ y hy => by cases hy⟩
    simp only [script_Encode.l0]
    exact Ev.neg (by simp) (Ev.now _)
  | y :: ys, pre, acc, hw, hn, ha => by
    have hlt : pre.length < (pre ++ y :: ys).length := by simp only [List.length_append, List.length_cons]; omega
    have wy := hw y List.mem_cons_self
    obtain ⟨r0, h0, hok⟩ := check_is y wy
    cases r0 with
    | some e =>
      refine ⟨([], some e), Ev.up ?_, fun h => ?_, fun h => by cases h⟩
      · simp only [script_Encode.l0, rd_at]
        exact Ev.pos (Int.ofNat_lt.2 hlt) (Ev.pos (Int.natCast_nonneg _) (Ev.pos (Int.ofNat_lt.2 hlt) (Ev.bind h0 (Ev.neg (by simp) (Ev.cast (Ev.now _) rfl)))))
      · have := hok.2 (h y List.mem_cons_self)
        cases this
    | none =>
      have oy := hok.1 rfl
      have hl := encA_len oy
      have hp : pre.length ≤ 3000 := by simp only [List.length_append] at hn; omega
      obtain ⟨r, hr, h1, h2⟩ := encode_l0 ys (pre ++ [y]) (acc ++ encA y) (fun z hz => hw z (List.mem_cons_of_mem _ hz)) (by simpa using hn) (by simp only [List.length_append, List.length_cons, List.length_nil]; omega)
      refine ⟨r, Ev.up ?_, fun h => ?_, fun h z hz => ?_⟩
      · simp only [script_Encode.l0, rd_at]
        refine Ev.pos (Int.ofNat_lt.2 hlt) (Ev.pos (Int.natCast_nonneg _) (Ev.pos (Int.ofNat_lt.2 hlt) (Ev.bind h0 (Ev.pos rfl (Ev.bind (encode_is oy wy (by omega)) ?_)))))
        rw [nextw hlt (by omega), show pre ++ y :: ys = (pre ++ [y]) ++ ys by simp, show pre.length + 1 = (pre ++ [y]).length by simp]
        exact hr
      · rw [h1 (fun z hz => h z (List.mem_cons_of_mem _ hz))]
        simp [encs]
      · rcases List.mem_cons.1 hz with rfl | hz
        · exact oy
        · exact h2 h z hz
theorem encode_all (l : List S33) (hw : ∀ y ∈ l, wfA y) (hn : l.length ≤ 3000) : ∃ k r, script_Encode.f k l = some r ∧ ((∀ y ∈ l, okA y) → r = (encs l, none)) ∧ (r.2 = none → ∀ y ∈ l, okA y) := by
  obtain ⟨r, hr, h1, h2⟩ := encode_l0 l [] [] hw (by simpa using hn) (by simp)
  obtain ⟨k, hk⟩ := Ev.ok hr
  refine ⟨k, r, ?_, fun h => by rw [h1 h]; simp, h2⟩
  unfold script_Encode.f
  simpa using hk
theorem tx_BE {b r : List Int} (h : b.length ≤ 65535) : tx (BE 2 b.length ++ (b ++ r)) = (b, r) := by
  unfold tx
  rw [NV_BE2 _ _ (by omega), Int.toNat_natCast, List.drop_append_of_le_length (by rw [BE_length]; omega), show (BE 2 (b.length : Int)).drop 2 = [] by rw [List.drop_eq_nil_of_le (by rw [BE_length]; omega)]]
  simp
theorem decA_encA {x : S33} (h : okA x) (w : wfA x) (r : List Int) : decA (encA x ++ r) = (x, r) := by
  obtain ⟨f0, f1, f2, f3, f4, f5, f6⟩ := x
  obtain ⟨k1, k4, hn, hs, hp, hl, z1, z2, z3, z6⟩ := h
  obtain ⟨w2, w3, w6⟩ := w
  simp only at k1 k4 hn hs hp hl z1 z2 z3 z6 w2 w3 w6
  have hc : f0 = 1 ∨ f0 = 2 ∨ f0 = 3 ∨ f0 = 4 := by omega
  rcases hc with rfl | rfl | rfl | rfl
  · obtain rfl := z2 (by decide)
    obtain ⟨rfl, rfl, rfl⟩ := z3 (by decide)
    have e : encA ⟨1, f1, 0, 0, 0, 0, f6⟩ ++ r = 0 :: f1 :: (BE 2 f6.length ++ (f6 ++ r)) := by simp [encA]
    rw [e]
    have m0 : (NV (0 :: f1 :: (BE 2 (f6.length : Int) ++ (f6 ++ r))) 1).tmod 4 = 0 := by simp [NV]
    unfold decA
    rw [if_pos m0]
    have t1 := tx_BE (b := f6) (r := r) hl
    simp only [List.drop_succ_cons, List.drop_zero]
    rw [t1]
    simp [NV]
  · obtain rfl := z1 (by decide)
    obtain ⟨rfl, rfl, rfl⟩ := z3 (by decide)
    obtain rfl := z6 (by decide) (by decide)
    have e : encA ⟨2, 0, f2, 0, 0, 0, []⟩ ++ r = 1 :: (BE 8 f2 ++ r) := by simp [encA]
    rw [e]
    have m0 : (NV (1 :: (BE 8 f2 ++ r)) 1).tmod 4 = 1 := by simp [NV]
    unfold decA
    rw [if_neg (by rw [m0]; decide), if_pos m0]
    simp only [List.drop_succ_cons, List.drop_zero]
    rw [NV_BE8 _ _ w2, List.drop_append_of_le_length (by rw [BE_length]; omega), show (BE 8 f2).drop 8 = [] by rw [List.drop_eq_nil_of_le (by rw [BE_length]; omega)]]
    simp
  · obtain rfl := z1 (by decide)
    obtain rfl := z2 (by decide)
    have e : encA ⟨3, 0, 0, f3, f4, f5, f6⟩ ++ r = 2 :: (BE 4 f3 ++ (BE 2 f4 ++ (BE 2 f5 ++ (BE 2 f6.length ++ (f6 ++ r))))) := by simp [encA]
    rw [e]
    have m0 : (NV (2 :: (BE 4 f3 ++ (BE 2 f4 ++ (BE 2 f5 ++ (BE 2 (f6.length : Int) ++ (f6 ++ r)))))) 1).tmod 4 = 2 := by simp [NV]
    have d4 : ∀ q, (BE 4 f3 ++ q).drop 4 = q := fun q => by rw [List.drop_append_of_le_length (by rw [BE_length]; omega), List.drop_eq_nil_of_le (by rw [BE_length]; omega)]; rfl
    have d2 : ∀ v q, (BE 2 v ++ q).drop 2 = q := fun v q => by rw [List.drop_append_of_le_length (by rw [BE_length]; omega), List.drop_eq_nil_of_le (by rw [BE_length]; omega)]; rfl
    unfold decA
    rw [if_neg (by rw [m0]; decide), if_neg (by rw [m0]; decide), if_pos m0]
    simp only [List.drop_succ_cons, List.drop_zero, d4, d2]
    rw [NV_BE4 _ _ w3, NV_BE2 _ _ (by omega), NV_BE2 _ _ (by omega), tx_BE hl]
  · obtain rfl := z1 (by decide)
    obtain rfl := z2 (by decide)
    obtain ⟨rfl, rfl, rfl⟩ := z3 (by decide)
    obtain rfl := z6 (by decide) (by decide)
    have e : encA ⟨4, 0, 0, 0, 0, 0, []⟩ ++ r = 3 :: r := by simp [encA]
    rw [e]
    have m0 : (NV (3 :: r) 1).tmod 4 = 3 := by simp [NV]
    unfold decA
    rw [if_neg (by rw [m0]; decide), if_neg (by rw [m0]; decide), if_neg (by rw [m0]; decide)]
    simp
theorem encA_ne {x : S33} (h : okA x) : encA x ≠ [] := by
  unfold encA
  split
  · simp
  · split
    · simp
    · split <;> simp
theorem dec_encs : ∀ ys : List S33, (∀ y ∈ ys, okA y) → (∀ y ∈ ys, wfA y) → dec (encs ys) = ys
  | [], _, _ => rfl
  | y :: ys, h, w => by
    have hy := h y List.mem_cons_self
    have hne : encA y ++ encs ys ≠ [] := by simp [encA_ne hy]
    show dec (encA y ++ encs ys) = y :: ys
    rw [dec_step hne, decA_encA hy (w y List.mem_cons_self), dec_encs ys (fun z hz => h z (List.mem_cons_of_mem _ hz)) (fun z hz => w z (List.mem_cons_of_mem _ hz))]
theorem tx_ok {l : List Int} (h : Bytes l) : (tx l).1.length ≤ 65535 ∧ Bytes (tx l).1 := by
  have := NV2 h
  unfold tx
  exact ⟨by simp only [List.length_take]; omega, (h.drop _).take _⟩
theorem decA_ok {l : List Int} (h : Bytes l) : okA (decA l).1 ∧ wfA (decA l).1 := by
  unfold decA
  have n1 := NV_lt (h.drop 1) 1
  have n8 := NV_lt (h.drop 1) 8
  have n4 := NV_lt (h.drop 1) 4
  have n2 := NV2 ((h.drop 1).drop 4)
  have n2' := NV2 (((h.drop 1).drop 4).drop 2)
  have t1 := tx_ok ((h.drop 1).drop 1)
  have t3 := tx_ok ((((h.drop 1).drop 4).drop 2).drop 2)
  have e1 : (256 : Int) ^ 1 = 256 := by decide
  have e8 : (256 : Int) ^ 8 = 18446744073709551616 := by decide
  have e4 : (256 : Int) ^ 4 = 4294967296 := by decide
  rw [e1] at n1
  rw [e8] at n8
  rw [e4] at n4
  split
  · exact ⟨⟨show (1 : Int) ≤ 1 by decide, show (1 : Int) ≤ 4 by decide, show 0 ≤ NV (l.drop 1) 1 ∧ NV (l.drop 1) 1 ≤ 255 by omega, show (0 : Int) ≤ 0 ∧ (0 : Int) ≤ 65535 by decide, show (0 : Int) ≤ 0 ∧ (0 : Int) ≤ 65535 by decide, t1.1, fun h => absurd rfl h, fun _ => rfl, fun _ => ⟨rfl, rfl, rfl⟩, fun h => absurd rfl h⟩, ⟨show (0 : Int) ≤ 0 ∧ (0 : Int) < 18446744073709551616 by decide, show (0 : Int) ≤ 0 ∧ (0 : Int) < 4294967296 by decide, t1.2⟩⟩
  · split
    · exact ⟨⟨show (1 : Int) ≤ 2 by decide, show (2 : Int) ≤ 4 by decide, show (0 : Int) ≤ 0 ∧ (0 : Int) ≤ 255 by decide, show (0 : Int) ≤ 0 ∧ (0 : Int) ≤ 65535 by decide, show (0 : Int) ≤ 0 ∧ (0 : Int) ≤ 65535 by decide, show ([] : List Int).length ≤ 65535 by decide, fun _ => rfl, fun h => absurd rfl h, fun _ => ⟨rfl, rfl, rfl⟩, fun _ _ => rfl⟩, ⟨n8, show (0 : Int) ≤ 0 ∧ (0 : Int) < 4294967296 by decide, Bytes.nil⟩⟩
    · split
      · exact ⟨⟨show (1 : Int) ≤ 3 by decide, show (3 : Int) ≤ 4 by decide, show (0 : Int) ≤ 0 ∧ (0 : Int) ≤ 255 by decide, n2, n2', t3.1, fun _ => rfl, fun _ => rfl, fun h => absurd rfl h, fun _ h => absurd rfl h⟩, ⟨show (0 : Int) ≤ 0 ∧ (0 : Int) < 18446744073709551616 by decide, n4, t3.2⟩⟩
      · exact ⟨⟨show (1 : Int) ≤ 4 by decide, show (4 : Int) ≤ 4 by decide, show (0 : Int) ≤ 0 ∧ (0 : Int) ≤ 255 by decide, show (0 : Int) ≤ 0 ∧ (0 : Int) ≤ 65535 by decide, show (0 : Int) ≤ 0 ∧ (0 : Int) ≤ 65535 by decide, show ([] : List Int).length ≤ 65535 by decide, fun _ => rfl, fun _ => rfl, fun _ => ⟨rfl, rfl, rfl⟩, fun _ _ => rfl⟩, ⟨show (0 : Int) ≤ 0 ∧ (0 : Int) < 18446744073709551616 by decide, show (0 : Int) ≤ 0 ∧ (0 : Int) < 4294967296 by decide, Bytes.nil⟩⟩
theorem decF_ok : ∀ (n : Nat) (l : List Int), Bytes l → (decF n l).length ≤ n ∧ ∀ y ∈ decF n l, okA y ∧ wfA y
  | 0, _, _ => ⟨Nat.le_refl _, fun y h => by cases h⟩
  | n + 1, l, hb => by
    unfold decF
    by_cases he : l = []
    · rw [if_pos he]
      exact ⟨by simp, fun y h => by cases h⟩
    · rw [if_neg he]
      obtain ⟨h1, h2⟩ := decF_ok n (decA l).2 (decA_bytes hb)
      refine ⟨by simp; omega, fun y hy => ?_⟩
      rcases List.mem_cons.1 hy with rfl | hy
      · exact decA_ok hb
      · exact h2 y hy
theorem encs_bytes : ∀ ys : List S33, (∀ y ∈ ys, okA y) → (∀ y ∈ ys, wfA y) → Bytes (encs ys)
  | [], _, _ => Bytes.nil
  | y :: ys, h, w => by
    have h1 := h y List.mem_cons_self
    have w1 := w y List.mem_cons_self
    have h2 := encs_bytes ys (fun z hz => h z (List.mem_cons_of_mem _ hz)) (fun z hz => w z (List.mem_cons_of_mem _ hz))
    intro v hv
    rcases List.mem_append.1 hv with hv | hv
    · have hb2 : ∀ v : Int, Bytes (BE 2 v) := BE_bytes 2
      have hn := h1.n
      unfold encA at hv
      split at hv
      · simp only [List.mem_append, List.mem_cons, List.not_mem_nil, or_false] at hv
        rcases hv with (rfl | rfl) | hv | hv
        · exact ⟨by decide, by decide⟩
        · exact hn
        · exact hb2 _ _ hv
        · exact w1.b _ hv
      · split at hv
        · simp only [List.mem_append, List.mem_cons, List.not_mem_nil, or_false] at hv
          rcases hv with rfl | hv
          · exact ⟨by decide, by decide⟩
          · exact BE_bytes 8 _ _ hv
        · split at hv
          · simp only [List.mem_append, List.mem_cons, List.not_mem_nil, or_false] at hv
            rcases hv with rfl | hv | hv | hv | hv | hv
            · exact ⟨by decide, by decide⟩
            · exact BE_bytes 4 _ _ hv
            · exact hb2 _ _ hv
            · exact hb2 _ _ hv
            · exact hb2 _ _ hv
            · exact w1.b _ hv
          · simp only [List.mem_cons, List.not_mem_nil, or_false] at hv
            rw [hv]
            exact ⟨by decide, by decide⟩
    · exact h2 v hv
end Go.Proofs.Ytecbahciplnhfaa
