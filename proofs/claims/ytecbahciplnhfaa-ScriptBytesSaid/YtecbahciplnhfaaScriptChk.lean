/-
  Which acts there are, told by numbers of errors; the bytes of acts; which lists are the same: the program's answers and the document's. For all acts and lists (of at most 3000).
-/
import Derived.Test.YtecbahciplnhfaaScriptPure
namespace Go.Proofs.Ytecbahciplnhfaa
set_option linter.unusedVariables false
set_option linter.unusedSimpArgs false
set_option linter.unnecessarySimpa false
open Go.RowKit Go.Proofs.YtecbahciplnhfaaW.PrintWords Go.Proofs.YtecbahciplnhfaaW.PrintLast Go.Proofs.YtecbahciplnhfaaW.PrintMore Go.Proofs.Ytecbahciplnhfaa.MScriptBytes Go.Proofs.Ytecbahciplnhfaa.Base
def doc (x : S33) : S43 := ⟨x.f0, x.f1, x.f2, x.f3, x.f4, x.f5, strOfNums x.f6⟩
instance (x : S33) : Decidable (zer x) := by unfold zer; infer_instance
def ecode (c : Int) : Option Int := if c = 0 then none else some c
def code1 (x : S33) (b : Bool) : Int := if b = true then 1 else if x.f6.length > 65535 then 3 else if zer x then 0 else 2
def inr (x : S33) : Prop := (0 ≤ x.f1 ∧ x.f1 ≤ 255) ∧ (0 ≤ x.f4 ∧ x.f4 ≤ 65535) ∧ (0 ≤ x.f5 ∧ x.f5 ≤ 65535)
instance (x : S33) : Decidable (inr x) := by unfold inr; infer_instance
def code0 (x : S33) (b : Bool) : Int := if b = true then 11 else code1 x (!decide (inr x))
/-- An act's error's number; 0: none. -/
def CK (x : S33) : Int := code0 x (decide (x.f0 < 1 ∨ x.f0 > 4))
theorem CK_ok {x : S33} : CK x = 0 ↔ okA x := by
  unfold CK code0 code1
  constructor
  · intro h
    by_cases h1 : x.f0 < 1 ∨ x.f0 > 4
    · simp [h1] at h
    · by_cases h2 : inr x
      · by_cases h3 : x.f6.length > 65535
        · simp [h1, h2, h3] at h
        · by_cases h4 : zer x
          · obtain ⟨a, b, c⟩ := h2
            obtain ⟨z1, z2, z3, z6⟩ := h4
            exact ⟨by omega, by omega, a, b, c, by omega, z1, z2, z3, z6⟩
          · simp [h1, h2, h3, h4] at h
      · simp [h1, h2] at h
  · intro h
    have h1 : ¬ (x.f0 < 1 ∨ x.f0 > 4) := by have := h.k1; have := h.k4; omega
    have h2 : inr x := ⟨h.n, h.s, h.p⟩
    have h3 : ¬ x.f6.length > 65535 := by have := h.l; omega
    have h4 : zer x := ⟨h.z1, h.z2, h.z3, h.z6⟩
    simp [h1, h2, h3, h4]
theorem chk_j1 (x : S33) (w : wfA x) (b : Bool) : Ev (fun k => script_Check.j1 k b x.f0 x.f1 x.f2 x.f3 x.f4 x.f5 x.f6) (ecode (code1 x b)) := by
  cases b with
  | true =>
    refine Ev.up ?_
    simp only [script_Check.j1]
    exact Ev.pos (by first | trivial | rfl) (Ev.now _)
  | false =>
    by_cases hl : (x.f6.length : Int) > 65535
    · refine Ev.up ?_
      simp only [script_Check.j1]
      exact Ev.neg (by decide) (Ev.pos hl (Ev.cast (Ev.now _) (by unfold code1; rw [if_neg (by decide), if_pos (by omega)]; rfl)))
    · obtain ⟨r, hr, hz⟩ := bare_is x w
      obtain ⟨bt, hb, ha⟩ := Option.bind_eq_some_iff.1 hr
      refine Ev.up ?_
      simp only [script_Check.j1]
      cases r with
      | true => exact Ev.neg (by decide) (Ev.neg hl (Ev.bindc hb (Ev.bindc ha (Ev.pos (by first | trivial | rfl) (Ev.cast (Ev.now _) (by unfold code1; rw [if_neg (by decide), if_neg (by omega), if_pos (hz.1 rfl)]; rfl))))))
      | false => exact Ev.neg (by decide) (Ev.neg hl (Ev.bindc hb (Ev.bindc ha (Ev.neg (by decide) (Ev.cast (Ev.now _) (by unfold code1; rw [if_neg (by decide), if_neg (by omega), if_neg (fun h => by have := hz.2 h; cases this)]; rfl))))))
theorem chk_j0 (x : S33) (w : wfA x) (b : Bool) : Ev (fun k => script_Check.j0 k b x.f0 x.f1 x.f2 x.f3 x.f4 x.f5 x.f6) (ecode (code0 x b)) := by
  cases b with
  | true =>
    refine Ev.up ?_
    simp only [script_Check.j0]
    exact Ev.pos (by first | trivial | rfl) (Ev.now _)
  | false =>
    have hr := chk_j1 x w true
    have e : code0 x false = code1 x (!decide (inr x)) := by unfold code0; rw [if_neg (by decide)]
    rw [e]
    refine Ev.up ?_
    simp only [script_Check.j0]
    by_cases h1 : 0 ≤ x.f1 ∧ x.f1 ≤ 255
    · by_cases h2 : 0 ≤ x.f4 ∧ x.f4 ≤ 65535
      · have hr' := chk_j1 x w (!decide (0 ≤ x.f5 ∧ x.f5 ≤ 65535))
        have e2 : inr x ↔ (0 ≤ x.f5 ∧ x.f5 ≤ 65535) := ⟨fun h => h.2.2, fun h => ⟨h1, h2, h⟩⟩
        rw [show decide (inr x) = decide (0 ≤ x.f5 ∧ x.f5 ≤ 65535) from decide_eq_decide.2 e2]
        exact Ev.neg (by decide) (Ev.bindc (in_f _ _) (Ev.pos (by rw [decide_eq_true h1]) (Ev.bindc (in_f _ _) (Ev.pos (by rw [decide_eq_true h2]) (Ev.bindc (in_f _ _) hr')))))
      · rw [show decide (inr x) = false from decide_eq_false (fun h => h2 h.2.1)]
        exact Ev.neg (by decide) (Ev.bindc (in_f _ _) (Ev.pos (by rw [decide_eq_true h1]) (Ev.bindc (in_f _ _) (Ev.neg (by rw [decide_eq_false h2]; decide) hr))))
    · rw [show decide (inr x) = false from decide_eq_false (fun h => h1 h.1)]
      exact Ev.neg (by decide) (Ev.bindc (in_f _ _) (Ev.neg (by rw [decide_eq_false h1]; decide) hr))
theorem chk_e (x : S33) (w : wfA x) : Ev (fun k => script_Check.f k x.f0 x.f1 x.f2 x.f3 x.f4 x.f5 x.f6) (ecode (CK x)) := by
  unfold script_Check.f CK
  by_cases h1 : x.f0 < 1
  · rw [show decide (x.f0 < 1 ∨ x.f0 > 4) = true from decide_eq_true (.inl h1)]
    exact Ev.pos h1 (chk_j0 x w true)
  · rw [show decide (x.f0 < 1 ∨ x.f0 > 4) = decide (x.f0 > 4) from decide_eq_decide.2 ⟨fun h => by omega, fun h => .inr h⟩]
    exact Ev.neg h1 (chk_j0 x w _)
theorem rchk_j4 (b : Bool) : Ev (fun k => horologeref39_Check.j4 k b) (if b = true then 2 else 0) := by
  refine Ev.up ?_
  simp only [horologeref39_Check.j4]
  cases b with
  | true => exact Ev.pos (by first | trivial | rfl) (Ev.now _)
  | false => exact Ev.neg (by decide) (Ev.now _)
theorem size_s (l : List Int) : ((strOfNums l).size : Int) = (l.length : Int) := by rw [strOfNums_size]
theorem rchk_j3 (x : S33) (b : Bool) : Ev (fun k => horologeref39_Check.j3 k b x.f0 x.f1 x.f2 x.f3 x.f4 x.f5 (strOfNums x.f6)) (if b = false ∧ (x.f0 ≠ 1 → x.f0 ≠ 3 → x.f6 = []) then 0 else 2) := by
  refine Ev.up ?_
  simp only [horologeref39_Check.j3, size_s]
  cases b with
  | true => exact Ev.pos (by first | trivial | rfl) (Ev.cast (rchk_j4 true) (by simp))
  | false =>
    refine Ev.neg (by decide) ?_
    by_cases h1 : x.f0 = 1
    · exact Ev.pos h1 (Ev.cast (rchk_j4 false) (by simp [h1]))
    · refine Ev.neg h1 ?_
      by_cases h3 : x.f0 = 3
      · exact Ev.pos h3 (Ev.cast (rchk_j4 false) (by simp [h3]))
      · refine Ev.neg h3 (Ev.cast (rchk_j4 _) ?_)
        by_cases h6 : x.f6 = []
        · simp [h1, h3, h6]
        · have : 0 < x.f6.length := List.length_pos_iff.2 h6
          simp [h1, h3, h6]
theorem rchk_j2 (x : S33) (b : Bool) : Ev (fun k => horologeref39_Check.j2 k b x.f0 x.f1 x.f2 x.f3 x.f4 x.f5 (strOfNums x.f6)) (if b = false ∧ (x.f0 ≠ 3 → x.f3 = 0 ∧ x.f4 = 0 ∧ x.f5 = 0) ∧ (x.f0 ≠ 1 → x.f0 ≠ 3 → x.f6 = []) then 0 else 2) := by
  refine Ev.up ?_
  simp only [horologeref39_Check.j2]
  cases b with
  | true => exact Ev.pos (by first | trivial | rfl) (Ev.cast (rchk_j3 x true) (by simp))
  | false =>
    refine Ev.neg (by decide) ?_
    by_cases h0 : x.f0 = 3
    · exact Ev.pos h0 (Ev.cast (rchk_j3 x false) (by simp [h0]))
    · refine Ev.neg h0 ?_
      by_cases h3 : x.f3 = 0
      · refine Ev.pos h3 ?_
        by_cases h4 : x.f4 = 0
        · refine Ev.pos h4 (Ev.cast (rchk_j3 x _) ?_)
          simp [h0, h3, h4]
        · exact Ev.neg h4 (Ev.cast (rchk_j3 x true) (by simp [h0, h4]))
      · exact Ev.neg h3 (Ev.cast (rchk_j3 x true) (by simp [h0, h3]))
theorem rchk_j1 (x : S33) (b : Bool) : Ev (fun k => horologeref39_Check.j1 k b x.f0 x.f1 x.f2 x.f3 x.f4 x.f5 (strOfNums x.f6)) (code1 x b) := by
  unfold code1
  refine Ev.up ?_
  simp only [horologeref39_Check.j1, size_s]
  cases b with
  | true => exact Ev.pos (by first | trivial | rfl) (Ev.now _)
  | false =>
    refine Ev.neg (by decide) ?_
    rw [if_neg (by decide)]
    by_cases hl : (x.f6.length : Int) > 65535
    · rw [if_pos (by omega)]
      exact Ev.pos hl (Ev.now _)
    · rw [if_neg (by omega)]
      refine Ev.neg hl ?_
      unfold zer
      by_cases h2 : x.f0 = 2
      · refine Ev.pos h2 ?_
        have h1 : ¬ x.f0 = 1 := by omega
        refine Ev.neg h1 (Ev.cast (rchk_j2 x _) ?_)
        simp [h1, h2]
      · refine Ev.neg h2 ?_
        by_cases h3 : x.f2 = 0
        · refine Ev.pos h3 ?_
          by_cases h1 : x.f0 = 1
          · exact Ev.pos h1 (Ev.cast (rchk_j2 x false) (by simp [h1, h3]))
          · refine Ev.neg h1 (Ev.cast (rchk_j2 x _) ?_)
            simp [h1, h2, h3]
        · exact Ev.neg h3 (Ev.cast (rchk_j2 x true) (by simp [h2, h3]))
theorem rchk_j0 (x : S33) (b : Bool) : Ev (fun k => horologeref39_Check.j0 k b x.f0 x.f1 x.f2 x.f3 x.f4 x.f5 (strOfNums x.f6)) (code0 x b) := by
  unfold code0
  refine Ev.up ?_
  simp only [horologeref39_Check.j0]
  cases b with
  | true => exact Ev.pos (by first | trivial | rfl) (Ev.now _)
  | false =>
    refine Ev.neg (by decide) ?_
    rw [if_neg (by decide)]
    have bad : ∀ {P : Prop}, (P → ¬ inr x) → P → Ev (fun k => horologeref39_Check.j1 k true x.f0 x.f1 x.f2 x.f3 x.f4 x.f5 (strOfNums x.f6)) (code1 x (!decide (inr x))) := fun h p => by
      rw [decide_eq_false (h p)]
      exact rchk_j1 x true
    by_cases h1 : x.f1 < 0
    · exact Ev.pos h1 (bad (fun h i => by have := i.1; omega) h1)
    · refine Ev.neg h1 ?_
      by_cases h2 : x.f1 > 255
      · exact Ev.pos h2 (bad (fun h i => by have := i.1; omega) h2)
      · refine Ev.neg h2 ?_
        by_cases h3 : x.f4 < 0
        · exact Ev.pos h3 (bad (fun h i => by have := i.2; omega) h3)
        · refine Ev.neg h3 ?_
          by_cases h4 : x.f4 > 65535
          · exact Ev.pos h4 (bad (fun h i => by have := i.2; omega) h4)
          · refine Ev.neg h4 ?_
            by_cases h5 : x.f5 < 0
            · exact Ev.pos h5 (bad (fun h i => by have := i.2; omega) h5)
            · refine Ev.neg h5 ?_
              have e : (!decide (inr x)) = decide (x.f5 > 65535) := by
                by_cases h6 : x.f5 > 65535
                · rw [decide_eq_true h6, decide_eq_false (fun i => by have := i.2.2; omega)]
                  rfl
                · rw [decide_eq_false h6, decide_eq_true (p := inr x) ⟨by omega, by omega, by omega⟩]
                  rfl
              rw [e]
              exact rchk_j1 x _
theorem rchk_e (x : S33) : Ev (fun k => horologeref39_Check.f k x.f0 x.f1 x.f2 x.f3 x.f4 x.f5 (strOfNums x.f6)) (CK x) := by
  unfold horologeref39_Check.f CK
  by_cases h1 : x.f0 < 1
  · rw [show decide (x.f0 < 1 ∨ x.f0 > 4) = true from decide_eq_true (.inl h1)]
    exact Ev.pos h1 (rchk_j0 x true)
  · rw [show decide (x.f0 < 1 ∨ x.f0 > 4) = decide (x.f0 > 4) from decide_eq_decide.2 ⟨fun h => by omega, fun h => .inr h⟩]
    exact Ev.neg h1 (rchk_j0 x _)
theorem num_e (c : Int) : horologenum_Num.f (ecode c) = some c := by
  unfold horologenum_Num.f ecode
  by_cases h : c = 0
  · rw [if_pos h]; simp [h]
  · rw [if_neg h, if_neg (by simp)]
    simp [h]
theorem rnumber_l (n : Int) (hn : 0 ≤ n ∧ n < 18446744073709551616) : ∀ (i j : Nat), i + j ≤ 8 → Ev (fun k => horologeref03_Number.l0 k (n / 256 ^ j) (List.replicate i 0 ++ BE j n) ((i : Int) - 1)) (BE (i + j) n)
  | 0, j, h => by
    refine Ev.up ?_
    simp only [horologeref03_Number.l0]
    exact Ev.neg (by omega) (Ev.cast (Ev.now _) (by simp))
  | i + 1, j, h => by
    have ih := rnumber_l n hn i (j + 1) (by omega)
    have hp : (0 : Int) < 256 ^ j := Int.pow_pos (by decide)
    have h0 : 0 ≤ n / 256 ^ j := Int.ediv_nonneg hn.1 (Int.le_of_lt hp)
    have h1 : n / 256 ^ j < 18446744073709551616 := Int.lt_of_le_of_lt (Int.ediv_le_self _ hn.1) hn.2
    have e1 : IntKind.u64.wrap (Int.tdiv (n / 256 ^ j) 256) = n / 256 ^ (j + 1) := by
      rw [Int.tdiv_eq_ediv_of_nonneg h0, wrap_u64, Int.pow_succ, ← Int.ediv_ediv_of_nonneg (Int.le_of_lt hp)]
      omega
    have e2 : (Int.tmod (n / 256 ^ j) 256) % 256 = (n / 256 ^ j) % 256 := by
      rw [Int.tmod_eq_emod_of_nonneg h0]
      omega
    have e3 : (((i + 1 : Nat) : Int) - 1).toNat = i := by omega
    have e4 : wrap64 (((i + 1 : Nat) : Int) - 1 - 1) = (i : Int) - 1 := by rw [wrap64_id (by unfold I64; omega)]; omega
    have e5 : (List.replicate (i + 1) (0 : Int) ++ BE j n).set i ((n / 256 ^ j) % 256) = List.replicate i 0 ++ BE (j + 1) n := by
      rw [List.replicate_succ', List.append_assoc, List.set_append_right _ _ (by simp)]
      simp [BE]
    refine Ev.up ?_
    simp only [horologeref03_Number.l0]
    refine Ev.pos (by omega) (Ev.pos (by omega) (Ev.pos (by simp only [List.length_append, List.length_replicate]; omega) ?_))
    rw [e1, e2, e3, e4, e5]
    exact Ev.cast ih (by rw [show i + (j + 1) = i + 1 + j by omega])
theorem rnum_e {n : Int} (hn : 0 ≤ n ∧ n < 18446744073709551616) {m : Nat} (hm : m ≤ 8) {y : Int} (hy : y = (m : Int)) : Ev (fun k => horologeref03_Number.f k n y) (BE m n) := by
  subst hy
  have h := rnumber_l n hn m 0 (by omega)
  unfold horologeref03_Number.f
  refine Ev.pos (by omega) (Ev.pos (by omega) ?_)
  rw [wrap64_id (by unfold I64; omega), Int.toNat_natCast]
  simpa [BE] using h
/-- The number of the first act's error that has one. -/
def EC : List S33 → Int
  | [] => 0
  | y :: ys => if CK y = 0 then EC ys else CK y
def encE (ys : List S33) : List Int × Option Int := if EC ys = 0 then (encs ys, none) else ([], some (EC ys))
theorem enc_l0 : ∀ (ys pre : List S33) (acc : List Int), (∀ y ∈ ys, wfA y) → (pre ++ ys).length ≤ 3000 → acc.length ≤ 65550 * pre.length →
    Ev (fun k => script_Encode.l0 k acc (pre ++ ys) ((pre ++ ys).length : Int) (pre.length : Int)) (if EC ys = 0 then (acc ++ encs ys, none) else ([], some (EC ys)))
  | [], pre, acc, _, _, _ => by
    refine Ev.up ?_
    simp only [script_Encode.l0]
    exact Ev.neg (by simp) (Ev.cast (Ev.now _) (by simp [EC, encs]))
  | y :: ys, pre, acc, hw, hn, ha => by
    have hlt : pre.length < (pre ++ y :: ys).length := by simp only [List.length_append, List.length_cons]; omega
    have wy := hw y List.mem_cons_self
    have h0 := chk_e y wy
    refine Ev.up ?_
    simp only [script_Encode.l0, rd_at]
    refine Ev.pos (Int.ofNat_lt.2 hlt) (Ev.pos (Int.natCast_nonneg _) (Ev.pos (Int.ofNat_lt.2 hlt) (Ev.bind h0 ?_)))
    by_cases hc : CK y = 0
    · have oy := CK_ok.1 hc
      have hl := encA_len oy
      have hp : pre.length ≤ 3000 := by simp only [List.length_append] at hn; omega
      have ih := enc_l0 ys (pre ++ [y]) (acc ++ encA y) (fun z hz => hw z (List.mem_cons_of_mem _ hz)) (by simpa using hn) (by simp only [List.length_append, List.length_cons, List.length_nil]; omega)
      unfold ecode
      rw [if_pos hc]
      refine Ev.pos rfl (Ev.bind (encode_is oy wy (by omega)) ?_)
      rw [nextw hlt (by omega), show pre ++ y :: ys = (pre ++ [y]) ++ ys by simp, show pre.length + 1 = (pre ++ [y]).length by simp]
      refine Ev.cast ih ?_
      simp [EC, hc, encs]
    · unfold ecode
      rw [if_neg hc]
      exact Ev.neg (by simp) (Ev.cast (Ev.now _) (by simp [EC, hc]))
theorem enc_e (l : List S33) (hw : ∀ y ∈ l, wfA y) (hn : l.length ≤ 3000) : ∃ k, script_Encode.f k l = some (encE l) := by
  have h := enc_l0 l [] [] hw (by simpa using hn) (by simp)
  obtain ⟨k, hk⟩ := Ev.ok h
  refine ⟨k, ?_⟩
  unfold script_Encode.f encE
  simpa using hk
/-- Which acts are the same. -/
def AL (x y : S33) : Bool := x.f0 == y.f0 && (x.f1 == y.f1 && (x.f2 == y.f2 && (x.f3 == y.f3 && (x.f4 == y.f4 && (x.f5 == y.f5 && ((strOfNums x.f6).toList == (strOfNums y.f6).toList))))))
theorem alike_e (x y : S33) : script_alike.f x.f0 x.f1 x.f2 x.f3 x.f4 x.f5 x.f6 y.f0 y.f1 y.f2 y.f3 y.f4 y.f5 y.f6 = some (AL x y) := by
  unfold script_alike.f bytes_Equal.f AL
  by_cases h0 : x.f0 = y.f0
  · rw [if_pos h0]
    by_cases h1 : x.f1 = y.f1
    · rw [if_pos h1]
      by_cases h2 : x.f2 = y.f2
      · rw [if_pos h2]
        by_cases h3 : x.f3 = y.f3
        · rw [if_pos h3]
          by_cases h4 : x.f4 = y.f4
          · rw [if_pos h4]
            by_cases h5 : x.f5 = y.f5
            · rw [if_pos h5]
              simp [h0, h1, h2, h3, h4, h5]
            · rw [if_neg h5]; simp [h5]
          · rw [if_neg h4]; simp [h4]
        · rw [if_neg h3]; simp [h3]
      · rw [if_neg h2]; simp [h2]
    · rw [if_neg h1]; simp [h1]
  · rw [if_neg h0]; simp [h0]
/-- Which lists are. -/
def SM : List S33 → List S33 → Bool
  | [], [] => true
  | x :: xs, y :: ys => AL x y && SM xs ys
  | _, _ => false
theorem AL_self (x : S33) : AL x x = true := by simp [AL]
theorem SM_self : ∀ l : List S33, SM l l = true
  | [] => rfl
  | x :: xs => by simp [SM, AL_self, SM_self xs]
theorem SM_len : ∀ (l m : List S33), l.length ≠ m.length → SM l m = false
  | [], [], h => absurd rfl h
  | x :: xs, y :: ys, h => by simp [SM, SM_len xs ys (by simpa using h)]
  | [], _ :: _, _ => rfl
  | _ :: _, [], _ => rfl
theorem SM_step {l m : List S33} {k : Nat} (h1 : k < l.length) (h2 : k < m.length) : SM (l.drop k) (m.drop k) = (AL (rd_T33 l (k : Int)) (rd_T33 m (k : Int)) && SM (l.drop (k + 1)) (m.drop (k + 1))) := by
  rw [List.drop_eq_getElem_cons h1, List.drop_eq_getElem_cons h2]
  simp [SM, rd_T33, List.getD_eq_getElem?_getD, h1, h2]
theorem document_l : ∀ (ys pre : List S33) , (pre ++ ys).length ≤ 1000000000 → Ev (fun k => horologelaw39_Document.l0 k (pre.map doc) (pre ++ ys) ((pre ++ ys).length : Int) (pre.length : Int)) ((pre ++ ys).map doc)
  | [], pre, hn => by
    refine Ev.up ?_
    simp only [horologelaw39_Document.l0]
    exact Ev.neg (by simp) (Ev.cast (Ev.now _) (by simp))
  | y :: ys, pre, hn => by
    have hlt : pre.length < (pre ++ y :: ys).length := by simp only [List.length_append, List.length_cons]; omega
    have ih := document_l ys (pre ++ [y]) (by simpa using hn)
    refine Ev.up ?_
    simp only [horologelaw39_Document.l0, rd_at]
    refine Ev.pos (Int.ofNat_lt.2 hlt) (Ev.pos (Int.natCast_nonneg _) (Ev.pos (Int.ofNat_lt.2 hlt) (Ev.pos (by simp only [List.length_map]; omega) ?_)))
    rw [nextw hlt (by omega)]
    simpa [doc] using ih
theorem document_is {l : List S33} (hl : l.length ≤ 1000000000) : ∃ k, horologelaw39_Document.f k l = some (l.map doc) := by
  have h := document_l l [] (by simpa using hl)
  obtain ⟨k, hk⟩ := Ev.ok h
  refine ⟨k, ?_⟩
  unfold horologelaw39_Document.f
  simpa using hk
theorem rd_doc {l : List S33} {j : Nat} (h : j < l.length) : rd_T43 (l.map doc) (j : Int) = doc (rd_T33 l (j : Int)) := by
  unfold rd_T43 rd_T33
  simp [List.getD_eq_getElem?_getD, h]
theorem rsame_l (l m : List S33) (he : l.length = m.length) (hl : l.length ≤ 1000000000) : ∀ (n j : Nat), j + n = l.length → Ev (fun k => horologelaw39_same.l0 k (l.map doc) (m.map doc) (l.length : Int) (j : Int)) (SM (l.drop j) (m.drop j))
  | 0, j, h => by
    refine Ev.up ?_
    simp only [horologelaw39_same.l0]
    exact Ev.neg (by omega) (Ev.cast (Ev.now _) (by rw [List.drop_eq_nil_of_le (by omega), List.drop_eq_nil_of_le (by omega)]; rfl))
  | n + 1, j, h => by
    have h1 : j < l.length := by omega
    have h2 : j < m.length := by omega
    have ih := rsame_l l m he hl n (j + 1) (by omega)
    refine Ev.up ?_
    simp only [horologelaw39_same.l0]
    refine Ev.pos (by omega) (Ev.pos (by omega) (Ev.pos (by simp only [List.length_map]; omega) (Ev.pos (by simp only [List.length_map]; omega) ?_)))
    rw [rd_doc h1, rd_doc h2, SM_step h1 h2]
    generalize rd_T33 l (j : Int) = x
    generalize rd_T33 m (j : Int) = y
    have e : (!((doc x).f0 == (doc y).f0) || (!((doc x).f1 == (doc y).f1) || (!((doc x).f2 == (doc y).f2) || (!((doc x).f3 == (doc y).f3) || (!((doc x).f4 == (doc y).f4) || (!((doc x).f5 == (doc y).f5) || !((doc x).f6.toList == (doc y).f6.toList))))))) = !(AL x y) := by
      simp only [doc, AL, Bool.not_and]
    rw [e]
    by_cases ha : AL x y = true
    · rw [ha]
      refine Ev.neg (by simp) ?_
      rw [nextw h1 (by omega), Bool.true_and]
      exact ih
    · rw [Bool.not_eq_true] at ha
      rw [ha]
      exact Ev.pos rfl (Ev.cast (Ev.now _) (by simp))
theorem rsame_is (l m : List S33) (hl : l.length ≤ 1000000000) : ∃ k, horologelaw39_same.f k (l.map doc) (m.map doc) = some (SM l m) := by
  unfold horologelaw39_same.f
  simp only [List.length_map]
  by_cases he : l.length = m.length
  · have h := rsame_l l m he hl l.length 0 (by omega)
    obtain ⟨k, hk⟩ := Ev.ok h
    refine ⟨k, ?_⟩
    rw [if_pos (by omega)]
    simpa using hk
  · refine ⟨0, ?_⟩
    rw [if_neg (by omega), SM_len l m he]
end Go.Proofs.Ytecbahciplnhfaa
