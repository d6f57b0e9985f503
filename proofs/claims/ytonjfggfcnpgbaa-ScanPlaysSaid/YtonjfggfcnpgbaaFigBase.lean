/- Figures in texts: how many a text begins with, and their number: plain facts. No condition. -/
import Derived.Test.YtonjfggfcnpgbaaTextBase
namespace Go.Proofs.Ytonjfggfcnpgbaa.Base
open Go.RowKit Go.Proofs.YtonjfggfcnpgbaaW.PrintWords Go.Proofs.YtonjfggfcnpgbaaW.PrintLast Go.Proofs.YtonjfggfcnpgbaaW.PrintMore
set_option linter.unusedVariables false
set_option linter.unusedSimpArgs false
/-- Is a byte a figure? -/
def figb (c : Int) : Prop := 48 ≤ c ∧ c ≤ 57
instance (c : Int) : Decidable (figb c) := inferInstanceAs (Decidable (_ ∧ _))
/-- How many figures stand from a place on, so many at most: the place behind them. -/
def runG (s : ByteArray) : Nat → Nat → Nat
  | i, 0 => i
  | i, f + 1 => if figb (bt s i) then runG s (i + 1) f else i
def runV (s : ByteArray) (m : Nat) : Nat := runG s 0 (min m s.size)
theorem runG_bd (s : ByteArray) (f : Nat) : ∀ i, i ≤ runG s i f ∧ runG s i f ≤ i + f := by
  induction f with
  | zero => intro i; exact ⟨Nat.le_refl _, Nat.le_refl _⟩
  | succ f ih =>
    intro i
    unfold runG
    split
    · have := ih (i + 1); omega
    · omega
theorem runG_min (s : ByteArray) (f : Nat) : ∀ i g, runG s i (min f g) = min (runG s i f) (i + g) := by
  induction f with
  | zero => intro i g; simp only [Nat.zero_min, runG]; omega
  | succ f ih =>
    intro i g
    cases g with
    | zero => have := runG_bd s (f + 1) i; simp only [Nat.min_zero, runG] at *; omega
    | succ g =>
      rw [Nat.succ_min_succ]
      unfold runG
      split
      · rw [ih (i + 1) g]; omega
      · omega
theorem runG_figs (s : ByteArray) (f : Nat) : ∀ i j, i ≤ j → j < runG s i f → figb (bt s j) := by
  induction f with
  | zero => intro i j h1 h2; simp only [runG] at h2; omega
  | succ f ih =>
    intro i j h1 h2
    unfold runG at h2
    split at h2
    · rename_i h
      by_cases e : j = i
      · subst e; exact h
      · exact ih (i + 1) j (by omega) h2
    · omega
theorem runV_min (s : ByteArray) (m : Nat) : runV s m = min (runG s 0 s.size) m := by
  unfold runV
  rw [Nat.min_comm, runG_min]; omega
theorem runV_bd (s : ByteArray) (m : Nat) : runV s m ≤ m ∧ runV s m ≤ s.size := by
  have := runG_bd s (min m s.size) 0
  unfold runV; omega
/-- The number of the first figures of a text. -/
def nv (s : ByteArray) : Nat → Int
  | 0 => 0
  | n + 1 => nv s n * 10 + (bt s n - 48)
theorem nv_nonneg (s : ByteArray) (n : Nat) (h : ∀ i : Nat, i < n → figb (bt s i)) : 0 ≤ nv s n := by
  induction n with
  | zero => simp [nv]
  | succ n ih =>
    have := ih (fun i hi => h i (by omega))
    have := h n (by omega)
    unfold figb at this
    simp only [nv]; omega
theorem nv_mono (s : ByteArray) {m n : Nat} (h : ∀ i : Nat, i < n → figb (bt s i)) (hm : m ≤ n) : nv s m ≤ nv s n := by
  induction n with
  | zero =>
    obtain rfl : m = 0 := by omega
    exact Int.le_refl _
  | succ n ih =>
    by_cases e : m = n + 1
    · subst e; exact Int.le_refl _
    · have a := ih (fun i hi => h i (by omega)) (by omega)
      have b := h n (by omega)
      have c := nv_nonneg s n (fun i hi => h i (by omega))
      unfold figb at b
      simp only [nv]; omega
theorem bt_extract (s : ByteArray) (n i : Nat) (h : i < n) (hn : n ≤ s.size) : bt (s.extract 0 n) i = bt s i := by
  unfold bt
  have hs : (s.extract 0 n).size = n := by simp; omega
  rw [dif_pos (show (i : Int).toNat < (s.extract 0 n).size by rw [hs]; exact h), dif_pos (show (i : Int).toNat < s.size by show i < s.size; omega)]
  have e : ∀ (h1 : i < (s.extract 0 n).size) (h2 : i < s.size), (s.extract 0 n)[i] = s[i] := by
    intro h1 h2
    show (s.extract 0 n).data[i] = s.data[i]
    simp [ByteArray.data_extract]
  have := e (by rw [hs]; exact h) (by omega)
  show (((s.extract 0 n)[i]'(by rw [hs]; exact h)).toNat : Int) = ((s[i]'(by omega)).toNat : Int)
  rw [this]
theorem size_extract (s : ByteArray) (n : Nat) (hn : n ≤ s.size) : (s.extract 0 n).size = n := by simp; omega
theorem nv_extract (s : ByteArray) (n : Nat) (hn : n ≤ s.size) : ∀ i, i ≤ n → nv (s.extract 0 n) i = nv s i := by
  intro i
  induction i with
  | zero => intro _; rfl
  | succ i ih => intro h; simp only [nv]; rw [ih (by omega), bt_extract s n i (by omega) hn]
theorem bt_son (l : List Int) (i : Nat) (h : i < l.length) (hr : 0 ≤ l[i] ∧ l[i] ≤ 255) : bt (strOfNums l) i = l[i] := by
  have hs : i < (strOfNums l).size := by rw [son_size]; exact h
  unfold bt
  rw [dif_pos (show (i : Int).toNat < (strOfNums l).size from hs)]
  have : (strOfNums l)[i] = UInt8.ofNat (l[i]).toNat := by
    show (strOfNums l).data[i] = _
    simp [strOfNums]
  rw [show (strOfNums l)[(i : Int).toNat] = (strOfNums l)[i] from rfl, this]
  simp; omega
end Go.Proofs.Ytonjfggfcnpgbaa.Base
