/- Rows of digits to the base 65536 and their values: plain facts, no program. No condition. -/
import Derived.Test.YtonjfggfcnpgbaaBase
namespace Go.Proofs.Ytonjfggfcnpgbaa.Base
open Go.RowKit Go.Proofs.YtonjfggfcnpgbaaW.PrintWords Go.Proofs.YtonjfggfcnpgbaaW.PrintLast Go.Proofs.YtonjfggfcnpgbaaW.PrintMore
set_option linter.unusedVariables false
set_option linter.unusedSimpArgs false

theorem getD_lt {l : List Int} {i : Nat} (h : i < l.length) : l.getD i 0 = l[i] := by simp [List.getD_eq_getElem?_getD, h]
theorem getD_ge {l : List Int} {i : Nat} (h : l.length ≤ i) : l.getD i 0 = 0 := by simp [List.getD_eq_getElem?_getD, h]
def val : List Int → Int
  | [] => 0
  | d :: ds => d + 65536 * val ds
def Dg (l : List Int) : Prop := ∀ d ∈ l, 0 ≤ d ∧ d < 65536
def dg (l : List Int) (i : Nat) : Int := l.getD i 0
def B (n : Nat) : Int := 65536 ^ n
theorem B_zero : B 0 = 1 := rfl
theorem B_succ (n : Nat) : B (n + 1) = 65536 * B n := by unfold B; rw [Int.pow_succ]; omega
theorem B_four : B 4 = 18446744073709551616 := by decide
theorem B_pos (n : Nat) : 0 < B n := Int.pow_pos (by decide)
theorem B_le {m n : Nat} (h : m ≤ n) : B m ≤ B n := by
  induction h with
  | refl => exact Int.le_refl _
  | step _ ih => rw [B_succ]; have := B_pos m; omega
theorem B_add (m n : Nat) : B (m + n) = B m * B n := Int.pow_add 65536 m n
theorem val_append (a b : List Int) : val (a ++ b) = val a + B a.length * val b := by
  induction a with
  | nil => simp [val, B]
  | cons d ds ih =>
    simp only [List.cons_append, val, ih, List.length_cons, B_succ, Int.mul_add]
    rw [Int.mul_assoc]; omega
theorem val_snoc (a : List Int) (d : Int) : val (a ++ [d]) = val a + B a.length * d := by
  rw [val_append]; simp [val]
theorem Dg.nil : Dg [] := fun _ h => by cases h
theorem Dg.snoc {l : List Int} {d : Int} (h : Dg l) (h0 : 0 ≤ d) (h1 : d < 65536) : Dg (l ++ [d]) := by
  intro x hx
  rcases List.mem_append.mp hx with h2 | h2
  · exact h x h2
  · rw [List.mem_singleton.mp h2]; exact ⟨h0, h1⟩
theorem Dg.sub {l m : List Int} (h : Dg l) (s : ∀ x ∈ m, x ∈ l) : Dg m := fun x hx => h x (s x hx)
theorem Dg.take {l : List Int} (h : Dg l) (n : Nat) : Dg (l.take n) := h.sub fun _ hx => List.mem_of_mem_take hx
theorem Dg.drop {l : List Int} (h : Dg l) (n : Nat) : Dg (l.drop n) := h.sub fun _ hx => List.mem_of_mem_drop hx
theorem Dg.dg {l : List Int} (h : Dg l) (i : Nat) : 0 ≤ dg l i ∧ dg l i < 65536 := by
  unfold Base.dg
  by_cases hi : i < l.length
  · rw [getD_lt hi]; exact h _ (List.getElem_mem hi)
  · rw [getD_ge (by omega)]; decide
theorem val_bd {l : List Int} (h : Dg l) : 0 ≤ val l ∧ val l < B l.length := by
  induction l with
  | nil => simp [val, B]
  | cons d ds ih =>
    have hd := h d (List.mem_cons_self)
    have := ih (fun x hx => h x (List.mem_cons_of_mem _ hx))
    simp only [val, List.length_cons, B_succ]; omega
theorem val_drop (l : List Int) (i : Nat) : val (l.drop i) = dg l i + 65536 * val (l.drop (i + 1)) := by
  unfold dg
  by_cases hi : i < l.length
  · rw [List.drop_eq_getElem_cons hi, getD_lt hi]; rfl
  · rw [List.drop_eq_nil_of_le (by omega), List.drop_eq_nil_of_le (by omega), getD_ge (by omega)]; simp [val]
theorem val_cut (l : List Int) (i : Nat) : val l = val (l.take i) + B i * val (l.drop i) := by
  by_cases hi : i ≤ l.length
  · have := val_append (l.take i) (l.drop i)
    rw [List.take_append_drop, List.length_take, Nat.min_eq_left hi] at this
    exact this
  · rw [List.drop_eq_nil_of_le (by omega), List.take_of_length_le (by omega)]; simp [val]
theorem val_take_bd {l : List Int} (h : Dg l) (i : Nat) : 0 ≤ val (l.take i) ∧ val (l.take i) < B i := by
  have a := val_bd (h.take i)
  have b : B (l.take i).length ≤ B i := B_le (List.length_take_le _ _)
  omega
/-- No nought at the end. -/
def Tr (l : List Int) : Prop := ∀ n, l.length = n + 1 → B n ≤ val l
theorem Tr.of_last {l : List Int} (h : Dg l) {n : Nat} (hl : l.length = n + 1) (hd : dg l n ≠ 0) : Tr l := by
  intro m hm
  obtain rfl : m = n := by omega
  rw [val_cut l m, val_drop, List.drop_eq_nil_of_le (by omega)]
  have a := val_take_bd h m
  have b := h.dg m
  have := Int.mul_le_mul_of_nonneg_left (show 1 ≤ dg l m by omega) (Int.le_of_lt (B_pos m))
  simp only [val, Int.mul_zero, Int.add_zero]
  omega
theorem Tr.pos {l : List Int} (h : Tr l) (hl : l ≠ []) : 0 < val l := by
  cases l with
  | nil => exact absurd rfl hl
  | cons d ds => have := h ds.length (by simp); have := B_pos ds.length; omega
theorem lt_of_dg {a b : List Int} (ha : Dg a) (hb : Dg b) (i : Nat) (he : val (a.drop (i + 1)) = val (b.drop (i + 1))) (hd : dg a i < dg b i) : val a < val b := by
  have e1 := val_cut a i
  have e2 := val_cut b i
  rw [val_drop, he] at e1
  rw [val_drop] at e2
  have l1 := val_take_bd ha i
  have l2 := val_take_bd hb i
  have := Int.mul_le_mul_of_nonneg_left (show dg a i + 65536 * val (b.drop (i + 1)) + 1 ≤ dg b i + 65536 * val (b.drop (i + 1)) by omega) (Int.le_of_lt (B_pos i))
  rw [Int.mul_add _ _ 1] at this
  omega
theorem val_rep (n : Nat) : val (List.replicate n 0) = 0 := by
  induction n with
  | zero => rfl
  | succ n ih => simp only [List.replicate_succ, val, ih]; rfl
theorem Dg.rep (n : Nat) : Dg (List.replicate n 0) := fun d h => by rw [(List.mem_replicate.mp h).2]; decide

/-- A sign and digits: the number x, of at most n digits. -/
def bv (b : Bool × List Int) : Int := if b.1 = true then -val b.2 else val b.2
structure Is (b : Bool × List Int) (x : Int) (n : Nat) : Prop where
  dg : Dg b.2
  tr : Tr b.2
  sg : b.1 = true → b.2 ≠ []
  eq : bv b = x
  le : b.2.length ≤ n
theorem Is.neg {b : Bool × List Int} {x : Int} {n : Nat} (h : Is b x n) : b.1 = true ↔ x < 0 := by
  have e := h.eq
  unfold bv at e
  constructor
  · intro hb
    rw [if_pos hb] at e
    have := h.tr.pos (h.sg hb); omega
  · intro hx
    by_cases hb : b.1 = true
    · exact hb
    · rw [if_neg hb] at e
      have := (val_bd h.dg).1; omega
theorem Is.abs {b : Bool × List Int} {x : Int} {n : Nat} (h : Is b x n) : val b.2 = if x < 0 then -x else x := by
  have e := h.eq
  have s := h.neg
  unfold bv at e
  by_cases hb : b.1 = true
  · rw [if_pos hb] at e; rw [if_pos (s.mp hb)]; omega
  · rw [if_neg hb] at e; rw [if_neg (fun hx => hb (s.mpr hx))]; exact e
theorem Is.mono {b : Bool × List Int} {x : Int} {n m : Nat} (h : Is b x n) (hm : n ≤ m) : Is b x m := ⟨h.dg, h.tr, h.sg, h.eq, Nat.le_trans h.le hm⟩
/-- The number as one of 64 bits, and an error's number. -/
def smallV (x : Int) : Int × Int := if I64 x then (x, 0) else (0, 5)
theorem smallV_in {x : Int} (h : I64 x) : smallV x = (x, 0) := by unfold smallV; rw [if_pos h]
theorem smallV_out {x : Int} (h : ¬ I64 x) : smallV x = (0, 5) := by unfold smallV; rw [if_neg h]
theorem wrap64_mul_add (x y d : Int) (h : x = wrap64 y) : wrap64 (wrap64 (x * 65536) + d) = wrap64 (y * 65536 + d) := by
  subst h; unfold wrap64; omega
theorem wrap64_mul_sub (x y d : Int) (h : x = wrap64 y) : wrap64 (wrap64 (x * 65536) - d) = wrap64 (y * 65536 - d) := by
  subst h; unfold wrap64; omega
theorem len_of_val {l : List Int} {n : Nat} (h : Tr l) (hv : val l < B n) : l.length ≤ n := by
  by_cases hl : l.length ≤ n
  · exact hl
  · have a := h (l.length - 1) (by omega)
    have b := B_le (show n ≤ l.length - 1 by omega)
    omega
theorem val_take_succ (l : List Int) (i : Nat) : val (l.take (i + 1)) = val (l.take i) + B i * dg l i := by
  have e1 := val_cut l i
  have e2 := val_cut l (i + 1)
  have e3 := val_drop l i
  generalize val (l.drop (i + 1)) = x at *
  rw [e3, Int.mul_add, Int.mul_left_comm (B i) 65536 x] at e1
  rw [B_succ, Int.mul_assoc] at e2
  omega
theorem Is.mk' {s : Bool} {l : List Int} {x : Int} {n : Nat} (hd : Dg l) (ht : Tr l) (hs : s = decide (x < 0)) (hv : val l = if x < 0 then -x else x) (hn : l.length ≤ n) : Is (s, l) x n := by
  refine ⟨hd, ht, ?_, ?_, hn⟩
  · intro h
    have hx : x < 0 := of_decide_eq_true (hs ▸ h)
    rw [if_pos hx] at hv
    intro hl
    have hl' : l = [] := hl
    rw [hl'] at hv; simp [val] at hv; omega
  · unfold bv
    by_cases hx : x < 0
    · rw [if_pos hx] at hv; rw [if_pos (hs.trans (decide_eq_true hx))]; simp only; omega
    · rw [if_neg hx] at hv; rw [if_neg (by rw [show (s, l).1 = s from rfl, hs, decide_eq_false hx]; decide)]; exact hv
theorem len_pos {l : List Int} (h : Dg l) (t : Tr l) : decide (0 < l.length) = decide (0 < val l) := by
  by_cases e : l = []
  · subst e; rfl
  · have a := t.pos e
    have : 0 < l.length := List.length_pos_iff.mpr e
    rw [decide_eq_true this, decide_eq_true a]
attribute [irreducible] B val
end Go.Proofs.Ytonjfggfcnpgbaa.Base
