/-
  SHA-1: the document's padded text and its words, in plain Lean.
-/
import Derived.Test.YtjffbdgidddbjaaShaSteps
namespace Go.Proofs.Ytjffbdgidddbjaa
set_option linter.unusedVariables false
set_option linter.unusedSimpArgs false
open Go.RowKit Go.Proofs.YtjffbdgidddbjaaW.PrintWords Go.Proofs.YtjffbdgidddbjaaW.PrintLast Go.Proofs.YtjffbdgidddbjaaW.PrintMore Go.Proofs.Ytjffbdgidddbjaa.MSha1Sums Go.Proofs.Ytjffbdgidddbjaa.Base
def PADL (l : List Int) : List Int := l ++ (128 :: (List.replicate (MB l.length * 64 - 9 - l.length % 64) 0 ++ BE 8 (8 * l.length)))
theorem PADL_tail (l : List Int) : PADL l = l.take (l.length / 64 * 64) ++ TAILB l := by
  unfold PADL TAILB
  rw [← List.append_assoc, List.take_append_drop]
theorem MB_12 (n : Nat) : 1 ≤ MB n ∧ MB n ≤ 2 ∧ n % 64 + 9 ≤ MB n * 64 := by unfold MB; split <;> omega
theorem TAILB_len (l : List Int) : (TAILB l).length = MB l.length * 64 := by
  have := MB_12 l.length
  unfold TAILB
  simp only [List.length_append, List.length_drop, List.length_cons, List.length_replicate, BE_length]
  omega
theorem PADL_len (l : List Int) : (PADL l).length = (l.length / 64 + MB l.length) * 64 := by
  have := TAILB_len l
  rw [PADL_tail, List.length_append, List.length_take, this]
  omega
theorem FD_left (s : St) (P l : List Int) (q : Nat) (hq : q * 64 ≤ l.length) (T : List Int) (hP : P = l.take (q * 64) ++ T) : ∀ j, j ≤ q → FD s P j = FD s l j
  | 0, _ => rfl
  | j + 1, h => by
    have ih := FD_left s P l q hq T hP j (by omega)
    unfold FD
    rw [ih]
    congr 1
    apply List.ext_getElem?
    intro i
    by_cases hi : i < 64
    · rw [List.getElem?_take_of_lt hi, List.getElem?_take_of_lt hi, List.getElem?_drop, List.getElem?_drop, hP, List.getElem?_append_left (by simp; omega), List.getElem?_take_of_lt (by omega)]
    · rw [List.getElem?_eq_none (by simp; omega), List.getElem?_eq_none (by simp; omega)]
theorem FD_right (s : St) (P l : List Int) (q : Nat) (hq : q * 64 ≤ l.length) (T : List Int) (hP : P = l.take (q * 64) ++ T) : ∀ j, FD s P (q + j) = FD (FD s l q) T j
  | 0 => by rw [Nat.add_zero, FD_left s P l q hq T hP q (Nat.le_refl q)]; rfl
  | j + 1 => by
    have ih := FD_right s P l q hq T hP j
    rw [← Nat.add_assoc]
    unfold FD
    rw [ih]
    congr 1
    apply List.ext_getElem?
    intro i
    by_cases hi : i < 64
    · rw [List.getElem?_take_of_lt hi, List.getElem?_take_of_lt hi, List.getElem?_drop, List.getElem?_drop, hP, List.getElem?_append_right (by simp; omega)]
      congr 1
      simp
      omega
    · rw [List.getElem?_eq_none (by simp; omega), List.getElem?_eq_none (by simp; omega)]
theorem FD_pad (l : List Int) : FD INIT (PADL l) (l.length / 64 + MB l.length) = DIG l := by
  rw [FD_right INIT (PADL l) l (l.length / 64) (by omega) (TAILB l) (PADL_tail l)]
  rfl
/-! the document's -/
theorem pad_l0 (l : List Int) (hl : l.length ≤ 1000000) : ∀ (j : Nat) (x : List Int), j < 64 → (x.length + j) % 64 = 56 → x.length + j ≤ 2000000 →
    Ev (fun k => horologeref09_Pad.l0 k l x) (x ++ (List.replicate j 0 ++ BE 8 (8 * l.length)))
  | 0, x, _, h, hb => by
    have hw : IntKind.u64.wrap ((IntKind.u64.wrap ((l.length : Int))) * 8) = 8 * (l.length : Int) := by rw [wrap_u64, wrap_u64]; omega
    refine Ev.up ?_
    simp only [horologeref09_Pad.l0]
    refine Ev.pos (by omega) ?_
    rw [hw]
    refine Ev.bind (rnum_e (n := 8 * (l.length : Int)) (by omega) (m := 8) (by decide) (y := 8) rfl) (Ev.pos (by rw [BE_length]; omega) ?_)
    exact Ev.now _
  | j + 1, x, hj, h, hb => by
    have ih := pad_l0 l hl j (x ++ [0]) (by omega) (by simp; omega) (by simp; omega)
    refine Ev.up ?_
    simp only [horologeref09_Pad.l0]
    refine Ev.neg (by omega) (Ev.pos (by omega) ?_)
    rw [show x ++ (List.replicate (j + 1) 0 ++ BE 8 (8 * (l.length : Int))) = x ++ [0] ++ (List.replicate j 0 ++ BE 8 (8 * (l.length : Int))) by rw [List.replicate_succ]; simp]
    exact ih
theorem pad_is (l : List Int) (hl : l.length ≤ 1000000) : Ev (fun k => horologeref09_Pad.f k l) (PADL l) := by
  have hm := MB_12 l.length
  unfold horologeref09_Pad.f
  refine Ev.bindc rfl (Ev.pos (by simp; omega) (Ev.bindc rfl (Ev.pos (by simp; omega) ?_)))
  have h := pad_l0 l hl (MB l.length * 64 - 9 - l.length % 64) ([] ++ l ++ [128]) (by unfold MB; split <;> omega) (by simp; unfold MB; split <;> omega) (by simp; omega)
  refine Ev.cast h ?_
  unfold PADL
  simp
theorem words_l0 (P : List Int) (M : Nat) (hP : P.length = M * 64) (hb : ∀ i, Byte (P.getD i 0)) (hM : M ≤ 1000000) : ∀ (n j : Nat), j + n = M →
    Ev (fun k => horologeref09_Words.l0 k P ((j * 64 : Nat) : Int) (FD INIT P j).1 (FD INIT P j).2.1 (FD INIT P j).2.2.1 (FD INIT P j).2.2.2.1 (FD INIT P j).2.2.2.2) (FD INIT P M)
  | 0, j, h => by
    obtain rfl : j = M := by omega
    refine Ev.up ?_
    simp only [horologeref09_Words.l0]
    exact Ev.neg (by omega) (Ev.now _)
  | n + 1, j, h => by
    have ih := words_l0 P M hP hb hM n (j + 1) (by omega)
    have w1 : wrap64 (((j * 64 : Nat) : Int) + 64) = (((j + 1) * 64 : Nat) : Int) := by unfold wrap64; omega
    have hc : (P.take ((j + 1) * 64)).drop (j * 64) = (P.drop (j * 64)).take 64 := by rw [List.drop_take]; congr 1; omega
    have hs := rstep_is (FD INIT P j) ((P.drop (j * 64)).take 64) (by simp; omega) (byte_cut P hb _)
    refine Ev.up ?_
    simp only [horologeref09_Words.l0, w1, Int.toNat_natCast, hc]
    refine Ev.pos (by omega) (Ev.pos (by omega) (Ev.pos (by omega) (Ev.pos (by omega) ?_)))
    exact Ev.bind hs ih
theorem PADL_bytes (l : List Int) (hb : ∀ x ∈ l, Byte x) : ∀ x ∈ PADL l, Byte x := by
  intro x hx
  unfold PADL at hx
  rcases List.mem_append.1 hx with hx | hx
  · exact hb x hx
  · rcases List.mem_cons.1 hx with rfl | hx
    · exact ⟨by decide, by decide⟩
    · rcases List.mem_append.1 hx with hx | hx
      · rw [List.eq_of_mem_replicate hx]
        exact ⟨by decide, by decide⟩
      · exact BE_bytes _ _ x hx
theorem rwords_is (l : List Int) (hl : l.length ≤ 1000000) (hb : ∀ x ∈ l, Byte x) : Ev (fun k => horologeref09_Words.f k l) (DIG l) := by
  unfold horologeref09_Words.f
  refine Ev.bind (pad_is l hl) ?_
  have h := words_l0 (PADL l) (l.length / 64 + MB l.length) (PADL_len l) (byte_of_mem (PADL_bytes l hb)) (by have := MB_12 l.length; omega) (l.length / 64 + MB l.length) 0 (by omega)
  rw [FD_pad] at h
  exact h
end Go.Proofs.Ytjffbdgidddbjaa
