/- GpsTexts: which texts are moments, and which ones, is the document's. For every text of Go's kinds; no further condition. -/
import Derived.Test.YtjameiglfecagaaTGpsTextsBig3
import Derived.Test.YtjameiglfecagaaCalBase
import Derived.Test.YtjameiglfecagaaScanBase
namespace Go.Proofs.Ytjameiglfecagaa.MGpsTexts
open Go.RowKit Go.Proofs.YtjameiglfecagaaW.PrintWords Go.Proofs.YtjameiglfecagaaW.PrintLast Go.Proofs.YtjameiglfecagaaW.PrintMore Go.Proofs.Ytjameiglfecagaa.Base
set_option linter.unusedVariables false
set_option linter.unusedSimpArgs false

theorem add_is (a b : Int) (ha : I64 a) (hb : I64 b) : num_Add.f a b = some (ovf (a + b)) := by
  unfold I64 at ha hb
  unfold num_Add.f ovf
  by_cases h : I64 (a + b)
  · have w := wrap64_id h
    unfold I64 at h
    rw [w, if_pos (show I64 (a + b) from h)]
    repeat' split
    all_goals first | rfl | omega
  · rw [if_neg h]
    unfold I64 at h
    unfold wrap64
    repeat' split
    all_goals first | rfl | (exfalso; omega)
theorem num_is (e : Option Int) : horologenum_Num.f e = some (match e with | none => 0 | some c => if c = 0 then -1 else c) := by
  unfold horologenum_Num.f
  cases e <;> simp
  split <;> rfl
theorem and32 {x : Int} (h0 : 0 ≤ x) (h : x < 18446744073709551616) : Go.bits .and .u64 x 4294967295 = x % 4294967296 := and_mask h0 h (n := 32) (by decide)
theorem mul64_is (a b : Int) (ha : 0 ≤ a ∧ a < 18446744073709551616) (hb : 0 ≤ b ∧ b < 18446744073709551616) :
    bits_Mul64.f a b = some (a * b / 18446744073709551616, a * b % 18446744073709551616) := by
  unfold bits_Mul64.f
  rw [and32 ha.1 ha.2, and32 hb.1 hb.2]
  have hp : ∀ x y : Int, 0 ≤ x → x ≤ 4294967295 → 0 ≤ y → y ≤ 4294967295 → 0 ≤ x * y ∧ x * y ≤ 18446744065119617025 := fun x y h1 h2 h3 h4 =>
    ⟨Int.mul_nonneg h1 h3, by have := Int.mul_le_mul h2 h4 h3 (by decide); omega⟩
  have e : a * b = 18446744073709551616 * ((a / 4294967296) * (b / 4294967296)) + 4294967296 * ((a / 4294967296) * (b % 4294967296) + (a % 4294967296) * (b / 4294967296)) + (a % 4294967296) * (b % 4294967296) := by
    have ea : a = 4294967296 * (a / 4294967296) + a % 4294967296 := by omega
    have eb : b = 4294967296 * (b / 4294967296) + b % 4294967296 := by omega
    generalize a / 4294967296 = a1 at *
    generalize a % 4294967296 = a0 at *
    generalize b / 4294967296 = b1 at *
    generalize b % 4294967296 = b0 at *
    subst ea eb
    simp only [Int.mul_add, Int.add_mul, Int.mul_assoc, Int.mul_left_comm a1 4294967296, Int.mul_left_comm a0 4294967296]
    omega
  have h11 := hp (a / 4294967296) (b / 4294967296) (by omega) (by omega) (by omega) (by omega)
  have h10 := hp (a / 4294967296) (b % 4294967296) (by omega) (by omega) (by omega) (by omega)
  have h01 := hp (a % 4294967296) (b / 4294967296) (by omega) (by omega) (by omega) (by omega)
  have h00 := hp (a % 4294967296) (b % 4294967296) (by omega) (by omega) (by omega) (by omega)
  rw [e]
  clear hp e
  generalize (a / 4294967296) * (b / 4294967296) = p11 at *
  generalize (a / 4294967296) * (b % 4294967296) = p10 at *
  generalize (a % 4294967296) * (b / 4294967296) = p01 at *
  generalize (a % 4294967296) * (b % 4294967296) = p00 at *
  clear ha hb
  have w11 : IntKind.u64.wrap p11 = p11 := by rw [wrap_u64]; omega
  have w10 : IntKind.u64.wrap p10 = p10 := by rw [wrap_u64]; omega
  have w01 : IntKind.u64.wrap p01 = p01 := by rw [wrap_u64]; omega
  have w00 : IntKind.u64.wrap p00 = p00 := by rw [wrap_u64]; omega
  have wt : IntKind.u64.wrap (p10 + p00 / 4294967296) = p10 + p00 / 4294967296 := by rw [wrap_u64]; omega
  rw [w11, w10, w01, w00, wt, and32 (by omega) (by omega)]
  rw [wrap_u64, wrap_u64, wrap_u64, wrap_u64]
  congr 2
  omega
theorem size_is (a : Int) (ha : I64 a) : num_size.f a = some (if a < 0 then -a else a) := by
  unfold I64 at ha
  unfold num_size.f
  split
  · rw [wrap_u64, wrap_u64]; congr 1; omega
  · rw [wrap_u64]; congr 1; omega
theorem signed_is (n : Int) (below : Bool) (h0 : 0 ≤ n) (h : n < 18446744073709551616) : Ev (fun k => num_signed.f k n below) (ovf (if below = true then -n else n)) := by
  unfold num_signed.f
  cases below with
  | true =>
    simp only [if_true]
    refine Ev.up ?_
    simp only [num_signed.j0]
    refine Ev.ite (fun q => ?_) (fun q => ?_)
    · have := of_decide_eq_true q
      rw [ovf_in (by unfold I64; omega)]
      refine Ev.cast (Ev.now _) ?_
      rw [wrap_u64]
      congr 1
      unfold wrap64; omega
    · have : ¬ n ≤ 9223372036854775808 := fun h => q (decide_eq_true h)
      rw [ovf_out (by unfold I64; omega)]
      simp only [if_true]
      exact Ev.now _
  | false =>
    simp only [Bool.false_eq_true, if_false]
    refine Ev.up ?_
    simp only [num_signed.j0, Bool.false_eq_true, if_false]
    refine Ev.ite (fun q => ?_) (fun q => ?_)
    · rw [ovf_in (by unfold I64; omega), wrap64_id (by unfold I64; omega)]
      exact Ev.now _
    · rw [ovf_out (by unfold I64; omega)]
      exact Ev.now _
theorem mul_is (a b : Int) (ha : I64 a) (hb : I64 b) : Ev (fun k => num_Mul.f k a b) (ovf (a * b)) := by
  have ha' := ha
  have hb' := hb
  unfold I64 at ha' hb'
  have hsa : 0 ≤ (if a < 0 then -a else a) ∧ (if a < 0 then -a else a) ≤ 9223372036854775808 := by split <;> omega
  have hsb : 0 ≤ (if b < 0 then -b else b) ∧ (if b < 0 then -b else b) ≤ 9223372036854775808 := by split <;> omega
  have hp := Int.mul_nonneg hsa.1 hsb.1
  have hs : a * b = (if ((decide (a < 0)) != (decide (b < 0))) = true then -((if a < 0 then -a else a) * (if b < 0 then -b else b)) else (if a < 0 then -a else a) * (if b < 0 then -b else b)) := by
    by_cases h1 : a < 0
    · by_cases h2 : b < 0
      · simp only [if_pos h1, if_pos h2, decide_eq_true h1, decide_eq_true h2, bne_self_eq_false, Bool.false_eq_true, if_false, Int.neg_mul_neg]
      · simp only [if_pos h1, if_neg h2, decide_eq_true h1, decide_eq_false h2, Bool.bne_false, if_true, Int.neg_mul, Int.neg_neg]
    · by_cases h2 : b < 0
      · simp only [if_neg h1, if_pos h2, decide_eq_false h1, decide_eq_true h2, Bool.bne_true, Bool.not_false, if_true, Int.mul_neg, Int.neg_neg]
      · simp only [if_neg h1, if_neg h2, decide_eq_false h1, decide_eq_false h2, bne_self_eq_false, Bool.false_eq_true, if_false]
  unfold num_Mul.f
  refine Ev.bindc (size_is a ha) (Ev.bindc (size_is b hb) (Ev.bindc (mul64_is _ _ (by omega) (by omega)) ?_))
  rw [hs]
  generalize (if a < 0 then -a else a) * (if b < 0 then -b else b) = p at *
  generalize ((decide (a < 0)) != (decide (b < 0))) = s at *
  clear hs hsa hsb
  refine Ev.ite (fun q => ?_) (fun q => ?_)
  · rw [show p % 18446744073709551616 = p by omega]
    exact Ev.bind (signed_is p s hp (by omega)) (Ev.now _)
  · rw [ovf_out (by unfold I64; split <;> omega)]
    exact Ev.now _
/-- The sum of numbers, from one on; too great as soon as a sum on the way is. -/
def sumV : Int → List Int → Int × Option Int
  | v, [] => (v, none)
  | v, x :: xs => if I64 (v + x) then sumV (v + x) xs else (0, some 5)
theorem rd_drop {l : List Int} {i : Nat} (h : i < l.length) : l.drop i = rd l i :: l.drop (i + 1) := by
  unfold rd
  rw [List.drop_eq_getElem_cons h]
  simp [h]
theorem sum_l0 (l : List Int) (hl : ∀ x ∈ l, I64 x) (hn : l.length ≤ 1000) (m : Nat) : ∀ (i : Nat) (v : Int), I64 v → i + m = l.length → Ev (fun k => num_Sum.l0 k v l (l.length : Int) i) (sumV v (l.drop i)) := by
  induction m with
  | zero =>
    intro i v hv hi
    rw [List.drop_eq_nil_of_le (by omega)]
    refine Ev.up ?_
    simp only [num_Sum.l0, sumV]
    exact Ev.neg (by omega) (Ev.now _)
  | succ m ih =>
    intro i v hv hi
    have hd := rd_drop (l := l) (i := i) (by omega)
    have hx : I64 (rd l i) := hl _ (List.mem_of_mem_drop (hd ▸ List.mem_cons_self))
    rw [hd]
    refine Ev.up ?_
    simp only [num_Sum.l0, sumV]
    refine Ev.pos (by omega) (Ev.pos (by omega) (Ev.pos (by omega) (Ev.bindc (add_is v _ hv hx) ?_)))
    by_cases h : I64 (v + rd l i)
    · rw [ovf_in h, if_pos h, wr (n := (i : Int) + 1) (by omega)]
      exact Ev.pos rfl (ih (i + 1) _ h (by omega))
    · rw [ovf_out h, if_neg h]
      exact Ev.neg (by simp) (Ev.now _)
/-- A quotient and its rest. -/
structure DM (a b q r : Int) : Prop where
  eq : a = b * q + r
  pos : 0 < b → 0 ≤ r ∧ r < b
  neg : b < 0 → b < r ∧ r ≤ 0
  iq : I64 q
/-- The moment of a week's second. -/
def taiV (w s : Int) : Int × Option Int := if 0 ≤ s ∧ s ≤ 604799 then (if I64 (w * 604800) then (if I64 (w * 604800 + s) then (if I64 (w * 604800 + s + 315964819) then (w * 604800 + s + 315964819, none) else (0, some 5)) else (0, some 5)) else (0, some 5)) else (0, some 1)
theorem tai_is (w s : Int) (hw : I64 w) (hs : I64 s) : Ev (fun k => gps_Tai.f k w s) (taiV w s) := by
  unfold gps_Tai.f taiV
  have bad : ¬ (0 ≤ s ∧ s ≤ 604799) → Ev (fun k => gps_Tai.j0 k w s true) (if 0 ≤ s ∧ s ≤ 604799 then (if I64 (w * 604800) then (if I64 (w * 604800 + s) then (if I64 (w * 604800 + s + 315964819) then (w * 604800 + s + 315964819, none) else (0, some 5)) else (0, some 5)) else (0, some 5)) else (0, some 1)) := by
    intro h
    rw [if_neg h]
    refine Ev.up ?_
    simp only [gps_Tai.j0, if_true]
    exact Ev.now _
  refine Ev.ite (fun h => bad (by omega)) (fun h => ?_)
  by_cases h2 : s ≥ 604800
  · rw [decide_eq_true h2]; exact bad (by omega)
  · rw [decide_eq_false h2, if_pos (by omega)]
    refine Ev.up ?_
    simp only [gps_Tai.j0, Bool.false_eq_true, if_false]
    refine Ev.bind (mul_is w 604800 hw (by unfold I64; omega)) ?_
    by_cases h3 : I64 (w * 604800)
    · rw [ovf_in h3, if_pos h3]
      have hl : ∀ x ∈ [w * 604800, s, 315964819], I64 x := by
        intro x hx
        rcases List.mem_cons.mp hx with e | hx
        · rw [e]; exact h3
        · rcases List.mem_cons.mp hx with e | hx
          · rw [e]; exact hs
          · rw [List.mem_singleton.mp hx]; unfold I64; omega
      have hsum := sum_l0 [w * 604800, s, 315964819] hl (by simp) 3 0 0 (by unfold I64; omega) rfl
      refine Ev.pos rfl (Ev.bind (a := if I64 (w * 604800 + s) then (if I64 (w * 604800 + s + 315964819) then (w * 604800 + s + 315964819, none) else (0, some 5)) else (0, some 5)) ?_ (Ev.now _))
      unfold num_Sum.f
      refine Ev.cast hsum ?_
      rw [List.drop_zero]
      simp only [sumV, Int.zero_add, if_pos h3]
    · rw [ovf_out h3, if_neg h3]
      exact Ev.neg (by simp) (Ev.now _)
/-- What is left of a text from a place on: nothing behind an error. -/
def leftV (l : List Int) (i : Nat) (e : Option Int) : List Int := if e.isNone = true then l.drop i else []
theorem leftV_none (l : List Int) (i : Nat) : leftV l i none = l.drop i := rfl
theorem leftV_byt {l : List Int} (h : Byt l) (i : Nat) (e : Option Int) : Byt (leftV l i e) := by
  unfold leftV; split
  · exact h.drop i
  · intro x hx; cases hx
theorem leftV_len (l : List Int) (i : Nat) (e : Option Int) : (leftV l i e).length ≤ l.length := by
  unfold leftV; split
  · simp
  · simp
theorem srest_is (l : List Int) (i : Nat) (e : Option Int) (hi : i ≤ l.length) : scan_Scanner_string_rest.f (strOfNums l) i e = some (strOfNums (leftV l i e), strOfNums l, (i : Int), e) := by
  unfold scan_Scanner_string_rest.f
  cases e with
  | none =>
    rw [if_pos (show (none : Option Int).isNone = true from rfl), if_pos (by omega), if_pos (by rw [son_size]; omega), Int.toNat_natCast, son_cut]; rfl
  | some c => rfl
theorem sclone_is (l : List Int) (hl : l.length ≤ 140737488351232) : strings_Clone.f (strOfNums l) = some (strOfNums l) := by
  unfold strings_Clone.f stringslite_Clone.f
  rw [if_pos (by rw [son_size]; omega)]; rfl
theorem stake_is (l : List Int) (i : Nat) (e : Option Int) (n : Nat) (hi : i ≤ l.length) (hl : l.length ≤ 140737488351232) (hn : n ≤ (leftV l i e).length) :
    scan_Scanner_string_take.f (strOfNums l) i e n = some (strOfNums ((leftV l i e).take n), strOfNums l, ((i + n : Nat) : Int), e) := by
  have hb := leftV_len l i e
  unfold scan_Scanner_string_take.f
  rw [srest_is l i e hi]
  simp only [Option.bind_some]
  rw [if_pos (by omega), if_pos (by rw [son_size]; omega), Int.toNat_natCast, son_first, sclone_is _ (by rw [List.length_take]; omega)]
  by_cases h : n = 0
  · subst h; rfl
  · rw [if_pos (by omega)]
    show some (_, _, wrap64 ((i : Int) + (n : Int)), _) = _
    have hn2 : i + n ≤ l.length ∨ n = 0 := by
      unfold leftV at hn; split at hn
      · rw [List.length_drop] at hn; omega
      · simp at hn; omega
    rw [wr (by omega)]
    congr 1
theorem speek_is (l : List Int) (hb : Byt l) (i : Nat) (e : Option Int) (hi : i ≤ l.length) : scan_Scanner_string_Peek.f (strOfNums l) i e = some ((leftV l i e).headD 0, decide (leftV l i e ≠ []), strOfNums l, (i : Int), e) := by
  unfold scan_Scanner_string_Peek.f
  rw [srest_is l i e hi]
  simp only [Option.bind_some]
  have hb2 := leftV_byt hb i e
  generalize leftV l i e = r at *
  cases r with
  | nil => rw [if_pos (by rw [son_toList]; rfl)]; rfl
  | cons x r =>
    rw [if_neg (by rw [son_toList]; simp), if_pos (by rw [son_size]; simp)]
    have := bt_at_son hb2 (i := 0) (by simp)
    rw [show bt (strOfNums (x :: r)) 0 = x from this]
    simp
/-- Does a byte come? -/
def comesV (r : List Int) (c : Int) : Bool := r.head? == some c
theorem sTake_is (l : List Int) (hb : Byt l) (i : Nat) (e : Option Int) (c : Int) (hi : i ≤ l.length) (hl : l.length ≤ 140737488351232) :
    scan_Scanner_string_Take.f (strOfNums l) i e c = some (comesV (leftV l i e) c, strOfNums l, (if comesV (leftV l i e) c = true then ((i + 1 : Nat) : Int) else (i : Int)), e) := by
  unfold scan_Scanner_string_Take.f
  rw [speek_is l hb i e hi]
  simp only [Option.bind_some]
  have ht := fun h => stake_is l i e 1 hi hl h
  generalize leftV l i e = r at *
  cases r with
  | nil => rfl
  | cons x r =>
    rw [if_pos (by simp)]
    unfold comesV
    by_cases h : x = c
    · subst h
      rw [if_pos (show (x :: r).headD 0 = x from rfl)]
      rw [show scan_Scanner_string_take.f (strOfNums l) (↑i) e 1 = _ from ht (by simp)]
      simp
    · rw [if_neg (show ¬ (x :: r).headD 0 = c from h)]
      have : ((x :: r).head? == some c) = false := by simpa using h
      rw [this]; rfl
theorem sidx_is (l : List Int) (h : Byt l) (c : Int) (hc : 0 ≤ c ∧ c ≤ 255) : strings_IndexByte.f (strOfNums l) c = some (if (l.takeWhile (fun x => x != c)).length < l.length then ((l.takeWhile (fun x => x != c)).length : Int) else -1) := by
  unfold strings_IndexByte.f stringslite_IndexByte.f idxb
  rw [idx_is l h c hc]; rfl
theorem tw_take {p : Int → Bool} (r : List Int) : r.take (r.takeWhile p).length = r.takeWhile p := (List.prefix_iff_eq_take.mp (List.takeWhile_prefix p)).symm
theorem tw_len {p : Int → Bool} (r : List Int) : (r.takeWhile p).length ≤ r.length := (List.takeWhile_prefix p).length_le
theorem sUntil_is (l : List Int) (hb : Byt l) (i : Nat) (e : Option Int) (c : Int) (hc : 0 ≤ c ∧ c ≤ 255) (hi : i ≤ l.length) (hl : l.length ≤ 140737488351232) :
    scan_Scanner_string_Until.f (strOfNums l) i e c = some (strOfNums ((leftV l i e).takeWhile (fun x => x != c)), strOfNums l, ((i + ((leftV l i e).takeWhile (fun x => x != c)).length : Nat) : Int), e) := by
  unfold scan_Scanner_string_Until.f
  rw [srest_is l i e hi]
  simp only [Option.bind_some]
  rw [sidx_is _ (leftV_byt hb i e) c hc]
  simp only [Option.bind_some]
  have ht := fun n h => stake_is l i e n hi hl h
  have hq := tw_take (p := fun x => x != c) (leftV l i e)
  have hle := tw_len (p := fun x => x != c) (leftV l i e)
  by_cases h : ((leftV l i e).takeWhile (fun x => x != c)).length < (leftV l i e).length
  · rw [if_pos h, if_neg (by omega), ht _ hle, hq]; rfl
  · rw [if_neg h, if_pos (by decide), son_size, ht _ (Nat.le_refl _), List.take_of_length_le (Nat.le_refl _)]
    have : (leftV l i e).takeWhile (fun x => x != c) = leftV l i e := (List.takeWhile_prefix _).eq_of_length_le (by omega)
    rw [this]; rfl
theorem sErr_is (s : ByteArray) (i : Int) (e : Option Int) : scan_Scanner_string_Err.f s i e = some (e, s, i, e) := rfl
theorem sLeft_is (l : List Int) (i : Nat) (e : Option Int) (hi : i ≤ l.length) : scan_Scanner_string_Left.f (strOfNums l) i e = some (((leftV l i e).length : Int), strOfNums l, (i : Int), e) := by
  unfold scan_Scanner_string_Left.f
  rw [srest_is l i e hi]
  simp only [Option.bind_some, son_size]
/-- The error at the end. -/
def endV (l : List Int) (i : Nat) (e : Option Int) : Option Int := match e with | some c => some c | none => if i < l.length then some 2 else none
theorem sEnd_is (l : List Int) (i : Nat) (e : Option Int) (hi : i ≤ l.length) : scan_Scanner_string_End.f (strOfNums l) i e = some (endV l i e, strOfNums l, (i : Int), e) := by
  unfold scan_Scanner_string_End.f
  rw [sErr_is]
  cases e with
  | some c => rfl
  | none =>
    simp only [Option.bind_some]
    rw [if_pos (show (none : Option Int).isNone = true from rfl), sLeft_is l i none hi]
    simp only [Option.bind_some, leftV_none, List.length_drop]
    unfold endV
    by_cases h : i < l.length
    · rw [if_pos (by omega)]; simp only [if_pos h]
    · rw [if_neg (by omega)]; simp only [if_neg h]
theorem smem_is (l : List Int) (h : Byt l) (c : Int) (hc : 0 ≤ c ∧ c ≤ 255) : ∃ t, strings_IndexByte.f (strOfNums l) c = some t ∧ (t ≥ 0 ↔ c ∈ l) := by
  refine ⟨_, sidx_is l h c hc, ?_⟩
  have := idx_mem l h c hc
  rwa [idx_is l h c hc] at this
theorem sRun_l0 (l set : List Int) (hb : Byt l) (hs : Byt set) (i : Nat) (e : Option Int) (hi : i ≤ l.length) (hl : l.length ≤ 140737488351232) (m : Nat) :
    ∀ j : Nat, j + m = (leftV l i e).length → (∀ q : Nat, q < j → ∀ h : q < (leftV l i e).length, (leftV l i e)[q] ∈ set) →
    Ev (fun k => scan_Scanner_string_Run.l0 k (strOfNums set) (strOfNums (leftV l i e)) j (strOfNums l) i e) (strOfNums ((leftV l i e).takeWhile (fun x => decide (x ∈ set))), strOfNums l, ((i + ((leftV l i e).takeWhile (fun x => decide (x ∈ set))).length : Nat) : Int), e) := by
  have ht := fun n h => stake_is l i e n hi hl h
  have hlen := leftV_len l i e
  have hbr := leftV_byt hb i e
  have stop : ∀ j : Nat, j ≤ (leftV l i e).length → (∀ q : Nat, q < j → ∀ h : q < (leftV l i e).length, (leftV l i e)[q] ∈ set) → (∀ h : j < (leftV l i e).length, (leftV l i e)[j] ∉ set) → ((leftV l i e).takeWhile (fun x => decide (x ∈ set))).length = j := by
    intro j hj hin hout
    generalize leftV l i e = r at *
    have e1 : r = r.take j ++ r.drop j := (List.take_append_drop j r).symm
    have hall : ∀ x ∈ r.take j, (fun x => decide (x ∈ set)) x = true := by
      intro x hx
      obtain ⟨q, hq, rfl⟩ := List.getElem_of_mem hx
      rw [List.length_take] at hq
      rw [List.getElem_take]
      exact decide_eq_true (hin q (by omega) (by omega))
    have e2 : r.takeWhile (fun x => decide (x ∈ set)) = r.take j ++ (r.drop j).takeWhile (fun x => decide (x ∈ set)) := by
      conv => lhs; rw [e1]
      exact List.takeWhile_append_of_pos hall
    have e3 : (r.drop j).takeWhile (fun x => decide (x ∈ set)) = [] := by
      by_cases h : j < r.length
      · rw [List.drop_eq_getElem_cons h, List.takeWhile_cons, if_neg (by simpa using hout h)]
      · rw [List.drop_of_length_le (by omega)]; rfl
    rw [e2, e3, List.append_nil, List.length_take]; omega
  induction m with
  | zero =>
    intro j hj hin
    have hs_ := stop j (by omega) hin (fun h => by omega)
    refine Ev.up ?_
    simp only [scan_Scanner_string_Run.l0]
    refine Ev.neg (by rw [son_size]; omega) (Ev.bindc (ht j (by omega)) (Ev.cast (Ev.now _) ?_))
    rw [← hs_, tw_take]
  | succ m ih =>
    intro j hj hin
    have hx := bt_at_son hbr (i := j) (by omega)
    have hr := hbr _ (List.getElem_mem (l := leftV l i e) (n := j) (by omega))
    obtain ⟨t, h1, h2⟩ := smem_is set hs _ hr
    refine Ev.up ?_
    simp only [scan_Scanner_string_Run.l0]
    rw [hx]
    refine Ev.pos (by rw [son_size]; omega) (Ev.pos (by omega) (Ev.bindc h1 (Ev.ite (fun h => ?_) (fun h => ?_))))
    · rw [show wrap64 ((j : Int) + 1) = ((j + 1 : Nat) : Int) from wr (by omega)]
      refine ih (j + 1) (by omega) ?_
      intro q hq hql
      by_cases e : q = j
      · subst e; exact h2.mp h
      · exact hin q (by omega) hql
    · have hs_ := stop j (by omega) hin (fun _ hm => h (h2.mpr hm))
      refine Ev.bindc (ht j (by omega)) (Ev.cast (Ev.now _) ?_)
      rw [← hs_, tw_take]
theorem sRun_is (l set : List Int) (hb : Byt l) (hs : Byt set) (i : Nat) (e : Option Int) (hi : i ≤ l.length) (hl : l.length ≤ 140737488351232) :
    Ev (fun k => scan_Scanner_string_Run.f k (strOfNums l) i e (strOfNums set)) (strOfNums ((leftV l i e).takeWhile (fun x => decide (x ∈ set))), strOfNums l, ((i + ((leftV l i e).takeWhile (fun x => decide (x ∈ set))).length : Nat) : Int), e) := by
  unfold scan_Scanner_string_Run.f
  exact Ev.bindc (srest_is l i e hi) (sRun_l0 l set hb hs i e hi hl (leftV l i e).length 0 (by omega) (fun q hq => by omega))
theorem is_is (c : Int) : figures_Is.f c = some (decide (figb c)) := by
  unfold figures_Is.f
  split
  · congr 1; exact decide_eq_decide.mpr ⟨fun q => ⟨by omega, q⟩, fun q => q.2⟩
  · congr 1; exact (decide_eq_false (fun q => by unfold figb at q; omega)).symm
theorem mn_nat (a : Nat) (m : Int) (hm : 0 ≤ m) : mn (a : Int) m = ((min m.toNat a : Nat) : Int) := by unfold mn; split <;> omega
theorem run_l0 (s : ByteArray) (m : Int) (hm : 0 ≤ m) (hs : s.size ≤ 140737488351232) (f : Nat) : ∀ i : Nat, i + f = min m.toNat s.size → Ev (fun k => figures_run.l0 k s m i) ((runG s i f : Nat) : Int) := by
  induction f with
  | zero =>
    intro i hi
    refine Ev.up ?_
    simp only [figures_run.l0, mn_nat _ _ hm, runG]
    exact Ev.neg (by omega) (Ev.now _)
  | succ f ih =>
    intro i hi
    refine Ev.up ?_
    simp only [figures_run.l0, mn_nat _ _ hm, is_is, Option.bind_some]
    refine Ev.pos (by omega) (Ev.pos (by omega) (Ev.pos (by omega) (Ev.ite (fun h => ?_) (fun h => ?_))))
    · rw [wr (n := (i : Int) + 1) (by omega)]
      unfold runG
      rw [if_pos (of_decide_eq_true h)]
      exact ih (i + 1) (by omega)
    · unfold runG
      rw [if_neg (fun q => h (decide_eq_true q))]
      exact Ev.now _
theorem run_is (s : ByteArray) (m : Int) (hm : 0 ≤ m) (hs : s.size ≤ 140737488351232) : Ev (fun k => figures_run.f k s m) ((runV s m.toNat : Nat) : Int) := by
  unfold figures_run.f
  exact run_l0 s m hm hs _ 0 (by omega)
theorem value_l0 (s : ByteArray) (L : Int) (hL : 100 ≤ L ∧ L ≤ 18446744073709551615) (hs : s.size ≤ 140737488351232) (hf : ∀ i : Nat, i < s.size → figb (bt s i)) (m : Nat) : ∀ i : Nat, i + m = s.size → nv s i ≤ L →
    Ev (fun k => figures_value.l0 k s L (nv s i) (s.size : Int) i) (if nv s s.size > L then (0, some 5) else (nv s s.size, none)) := by
  induction m with
  | zero =>
    intro i hi hv
    rw [show s.size = i by omega]
    refine Ev.up ?_
    simp only [figures_value.l0]
    rw [if_neg (by omega)]
    exact Ev.neg (by omega) (Ev.now _)
  | succ m ih =>
    intro i hi hv
    have hd := hf i (by omega)
    unfold figb at hd
    have h0 := nv_nonneg s i (fun j hj => hf j (by omega))
    have w1 : (bt s i - 48) % 256 = bt s i - 48 := by omega
    have w2 : IntKind.u64.wrap (Int.tdiv (IntKind.u64.wrap (L - (bt s i - 48))) 10) = (L - (bt s i - 48)) / 10 := by rw [wrap_u64 (L - _), tdiv_is, if_neg (by omega), wrap_u64]; omega
    refine Ev.up ?_
    simp only [figures_value.l0, w1, w2]
    refine Ev.pos (by omega) (Ev.pos (by omega) (Ev.pos (by omega) (Ev.ite (fun h => ?_) (fun h => ?_))))
    · have hm : nv s (i + 1) ≤ nv s s.size := nv_mono s (fun j hj => hf j hj) (by omega)
      simp only [nv] at hm
      rw [if_pos (by omega)]
      exact Ev.now _
    · have w3 : IntKind.u64.wrap (IntKind.u64.wrap (nv s i * 10) + (bt s i - 48)) = nv s (i + 1) := by simp only [nv]; rw [wrap_u64, wrap_u64]; omega
      rw [w3, wr (n := (i : Int) + 1) (by omega)]
      exact ih (i + 1) (by omega) (by simp only [nv]; omega)
theorem value_is (s : ByteArray) (L : Int) (hL : 100 ≤ L ∧ L ≤ 18446744073709551615) (hs : s.size ≤ 140737488351232) (hf : ∀ i : Nat, i < s.size → figb (bt s i)) :
    Ev (fun k => figures_value.f k s L) (if nv s s.size > L then (0, some 5) else (nv s s.size, none)) := by
  unfold figures_value.f
  have := value_l0 s L hL hs hf s.size 0 (by omega) (by simp only [nv]; omega)
  simpa [nv] using this
theorem runV_figs (s : ByteArray) (m : Nat) : ∀ i : Nat, i < runV s m → figb (bt s i) := fun i hi => runG_figs s _ 0 i (by omega) hi
/-- What the figures that a text begins with come to. -/
def takeV (s : ByteArray) (least most L : Int) : Int × Int × Option Int :=
  if least < 1 ∨ least > most ∨ most > 20 then (0, 0, some 1)
  else if (runV s most.toNat : Int) < least then (0, 0, some 2)
  else if nv s (runV s most.toNat) > L then (0, 0, some 5)
  else (nv s (runV s most.toNat), runV s most.toNat, none)
theorem take_is (s : ByteArray) (least most L : Int) (hL : 100 ≤ L ∧ L ≤ 18446744073709551615) (hs : s.size ≤ 140737488351232) : Ev (fun k => figures_take.f k s least most L) (takeV s least most L) := by
  unfold figures_take.f takeV
  have bad : (least < 1 ∨ least > most ∨ most > 20) → Ev (fun k => figures_take.j0 k s least most L true) (if least < 1 ∨ least > most ∨ most > 20 then (0, 0, some 1) else if (runV s most.toNat : Int) < least then (0, 0, some 2) else if nv s (runV s most.toNat) > L then (0, 0, some 5) else (nv s (runV s most.toNat), ((runV s most.toNat : Nat) : Int), none)) := by
    intro h
    rw [if_pos h]
    refine Ev.up ?_
    simp only [figures_take.j0, if_true]
    exact Ev.now _
  refine Ev.ite (fun h => bad (Or.inl h)) (fun h1 => Ev.ite (fun h => bad (Or.inr (Or.inl h))) (fun h2 => ?_))
  by_cases h3 : most > 20
  · rw [decide_eq_true h3]; exact bad (Or.inr (Or.inr h3))
  · rw [decide_eq_false h3, if_neg (by omega)]
    refine Ev.up ?_
    simp only [figures_take.j0, Bool.false_eq_true, if_false]
    refine Ev.bind (run_is s most (by omega) hs) (Ev.ite (fun h => ?_) (fun h => ?_))
    · rw [if_pos h]; exact Ev.now _
    · rw [if_neg h]
      have rb := runV_bd s most.toNat
      have hx : (s.extract 0 ((runV s most.toNat : Nat) : Int).toNat).size = runV s most.toNat := size_extract s _ rb.2
      have hv := value_is (s.extract 0 ((runV s most.toNat : Nat) : Int).toNat) L hL (by rw [hx]; omega) (by
        rw [hx]
        intro i hi
        rw [Int.toNat_natCast, bt_extract s _ i hi rb.2]
        exact runV_figs s _ i hi)
      rw [hx] at hv
      rw [show nv (s.extract 0 ((runV s most.toNat : Nat) : Int).toNat) (runV s most.toNat) = nv s (runV s most.toNat) from nv_extract s _ rb.2 _ (Nat.le_refl _)] at hv
      refine Ev.pos (by omega) (Ev.pos (by omega) (Ev.bind hv ?_))
      by_cases hg : nv s (runV s most.toNat) > L
      · rw [if_pos hg, if_pos hg]; exact Ev.now _
      · rw [if_neg hg, if_neg hg]; exact Ev.now _
theorem sgoing_is (s : ByteArray) (i : Int) (e : Option Int) : scan_Scanner_string_going.f s i e = some (e.isNone, s, i, e) := by
  unfold scan_Scanner_string_going.f
  cases e <;> rfl
theorem tTake_is (s : ByteArray) (least most : Int) (hs : s.size ≤ 140737488351232) : Ev (fun k => figures_Take.f k s least most) (takeV s least most 9223372036854775807) := by
  unfold figures_Take.f
  refine Ev.bind (take_is s least most 9223372036854775807 (by omega) hs) (Ev.cast (Ev.now _) ?_)
  have hI : I64 (takeV s least most 9223372036854775807).1 := by
    unfold takeV I64
    have := nv_nonneg s (runV s most.toNat) (runV_figs s _)
    repeat' split
    all_goals (simp only; omega)
  rw [wrap64_id hI]
/-- Figures taken: the number, the place behind them, the error. -/
def sfigV (l : List Int) (i : Nat) (e : Option Int) (least most : Int) : Int × Int × Option Int :=
  match e with
  | some c => (0, i, some c)
  | none => match takeV (strOfNums (l.drop i)) least most 9223372036854775807 with
    | (n, m, none) => (n, i + m, none)
    | (_, _, some q) => (0, i, some q)
theorem takeV_le (s : ByteArray) (least most L : Int) : 0 ≤ (takeV s least most L).2.1 ∧ (takeV s least most L).2.1 ≤ s.size := by
  have := runV_bd s most.toNat
  unfold takeV
  repeat' split
  all_goals (simp only; omega)
theorem sFigures_is (l : List Int) (hb : Byt l) (i : Nat) (e : Option Int) (least most : Int) (hi : i ≤ l.length) (hl : l.length ≤ 140737488351232) :
    Ev (fun k => scan_Scanner_string_Figures.f k (strOfNums l) i e least most) ((sfigV l i e least most).1, strOfNums l, (sfigV l i e least most).2.1, (sfigV l i e least most).2.2) := by
  unfold scan_Scanner_string_Figures.f
  refine Ev.bindc (sgoing_is _ _ _) ?_
  cases e with
  | some c => exact Ev.neg (by simp) (Ev.now _)
  | none =>
    refine Ev.pos rfl (Ev.bindc (srest_is l i none hi) ?_)
    simp only [leftV_none]
    refine Ev.bind (tTake_is _ least most (by rw [son_size, List.length_drop]; omega)) ?_
    unfold sfigV
    have hle := takeV_le (strOfNums (l.drop i)) least most 9223372036854775807
    rw [son_size, List.length_drop] at hle
    rcases hq : takeV (strOfNums (l.drop i)) least most 9223372036854775807 with ⟨n, m, q⟩
    rw [hq] at hle
    simp only at hle
    cases q with
    | some q => exact Ev.neg (by simp) (Ev.now _)
    | none =>
      obtain ⟨m', rfl⟩ : ∃ m' : Nat, m = (m' : Int) := ⟨m.toNat, by omega⟩
      refine Ev.pos rfl (Ev.bindc (stake_is l i none m' hi hl (by rw [leftV_none, List.length_drop]; omega)) (Ev.cast (Ev.now _) ?_))
      show (n, strOfNums l, ((i + m' : Nat) : Int), (none : Option Int)) = (n, strOfNums l, (i : Int) + m', none)
      rw [show ((i + m' : Nat) : Int) = (i : Int) + m' by omega]
theorem toList1 (s : ByteArray) (h : 0 < s.size) : (s.extract 0 1).toList = [s[0]] := by
  rw [ByteArray.toList_eq]
  apply List.ext_getElem
  · have : (s.extract 0 1).size = 1 := size_extract s 1 h
    simpa using this
  · intro i h1 h2
    have : i = 0 := by simp at h2; omega
    subst this
    simp
    rfl
theorem prefix_is (s : ByteArray) (c : UInt8) : stringslite_HasPrefix.f s (⟨#[c]⟩ : ByteArray) = some (decide (0 < s.size ∧ bt s 0 = c.toNat)) := by
  have h1 : (⟨#[c]⟩ : ByteArray).size = 1 := rfl
  have h2 : (⟨#[c]⟩ : ByteArray).toList = [c] := by rw [ByteArray.toList_eq]
  unfold stringslite_HasPrefix.f
  rw [h1, h2]
  by_cases h : 0 < s.size
  · rw [if_pos (by omega), if_pos (by omega), if_pos (by omega)]
    rw [show (((1 : Nat) : Int)).toNat = 1 from rfl, toList1 s h]
    congr 1
    have hb : bt s 0 = (s[0]).toNat := by unfold bt; rw [dif_pos (show (0 : Int).toNat < s.size from h)]; rfl
    rw [hb, Bool.eq_iff_iff, beq_iff_eq]
    constructor
    · intro q
      have : s[0] = c := by simpa using q
      rw [this]; simp [h]
    · intro q
      have := (of_decide_eq_true q).2
      have : s[0] = c := UInt8.toNat_inj.mp (by exact_mod_cast this)
      rw [this]
  · rw [if_neg (by omega), decide_eq_false (fun q => h q.1)]
/-- A sign ahead of figures: is it a minus; what is behind it. -/
def minusB (s : ByteArray) : Prop := 0 < s.size ∧ bt s 0 = 45
def plusB (s : ByteArray) : Prop := 0 < s.size ∧ bt s 0 = 43
instance (s : ByteArray) : Decidable (minusB s) := inferInstanceAs (Decidable (_ ∧ _))
instance (s : ByteArray) : Decidable (plusB s) := inferInstanceAs (Decidable (_ ∧ _))
def restB (s : ByteArray) : ByteArray := if minusB s ∨ plusB s then s.extract 1 s.size else s
def limB (s : ByteArray) : Int := if minusB s then 9223372036854775808 else 9223372036854775807
theorem restB_size (s : ByteArray) : (restB s).size ≤ s.size := by
  unfold restB
  split
  · simp
  · exact Nat.le_refl _
def wholeL (s : ByteArray) (least most L : Int) : Int × Option Int :=
  match takeV s least most L with
  | (n, m, none) => if m < (s.size : Int) then (0, some 2) else (n, none)
  | (_, _, some e) => (0, some e)
theorem wholel_is (s : ByteArray) (least most L : Int) (hL : 100 ≤ L ∧ L ≤ 18446744073709551615) (hs : s.size ≤ 140737488351232) : Ev (fun k => figures_whole.f k s least most L) (wholeL s least most L) := by
  unfold figures_whole.f wholeL
  refine Ev.bind (take_is s least most L hL hs) ?_
  rcases takeV s least most L with ⟨n, m, e⟩
  cases e with
  | none =>
    simp only [Option.isNone_none, if_true]
    refine Ev.ite (fun h => ?_) (fun h => ?_)
    · rw [if_pos h]; exact Ev.now _
    · rw [if_neg h]; exact Ev.now _
  | some e => exact Ev.now _
def signedV (s : ByteArray) (most : Int) : Int × Option Int :=
  match wholeL (restB s) 1 most (limB s) with
  | (n, none) => (if minusB s then -n else n, none)
  | (_, some e) => (0, some e)
theorem takeV_bd (s : ByteArray) (least most L : Int) (hL : 0 ≤ L) : 0 ≤ (takeV s least most L).1 ∧ (takeV s least most L).1 ≤ L := by
  unfold takeV
  have := nv_nonneg s (runV s most.toNat) (runV_figs s _)
  repeat' split
  all_goals (simp only; omega)
theorem wholeL_bd (s : ByteArray) (least most L : Int) (hL : 0 ≤ L) : 0 ≤ (wholeL s least most L).1 ∧ (wholeL s least most L).1 ≤ L := by
  have h := takeV_bd s least most L hL
  unfold wholeL
  rcases hq : takeV s least most L with ⟨n, m, e⟩
  rw [hq] at h
  simp only at h
  cases e with
  | none => simp only; split <;> simp only <;> omega
  | some e => simp only; omega
theorem fsigned_is (s : ByteArray) (most : Int) (hs : s.size ≤ 140737488351232) : Ev (fun k => figures_Signed.f k s most) (signedV s most) := by
  have rs := restB_size s
  unfold figures_Signed.f signedV
  have cut : strings_CutPrefix.f s (⟨#[45]⟩ : ByteArray) = some (if minusB s then s.extract 1 s.size else s, decide (minusB s)) := by
    unfold strings_CutPrefix.f stringslite_CutPrefix.f
    rw [show stringslite_HasPrefix.f s (⟨#[45]⟩ : ByteArray) = some (decide (minusB s)) from (prefix_is s 45).trans rfl]
    simp only [Option.bind_some]
    by_cases h : minusB s
    · have h' := h
      unfold minusB at h'
      rw [if_pos (decide_eq_true h), if_pos h, decide_eq_true h]
      rw [if_pos (by simp [ByteArray.size]), if_pos (by show ((1 : Nat) : Int) ≤ _; omega)]
      rfl
    · rw [if_neg (by rw [decide_eq_false h]; decide), if_neg h, decide_eq_false h]; rfl
  have trim : strings_TrimPrefix.f s (⟨#[43]⟩ : ByteArray) = some (if plusB s then s.extract 1 s.size else s) := by
    unfold strings_TrimPrefix.f stringslite_TrimPrefix.f
    rw [show stringslite_HasPrefix.f s (⟨#[43]⟩ : ByteArray) = some (decide (plusB s)) from (prefix_is s 43).trans rfl]
    simp only [Option.bind_some]
    by_cases h : plusB s
    · have h' := h
      unfold plusB at h'
      rw [if_pos (decide_eq_true h), if_pos h]
      rw [if_pos (by simp [ByteArray.size]), if_pos (by show ((1 : Nat) : Int) ≤ _; omega)]
      rfl
    · rw [if_neg (by rw [decide_eq_false h]; decide), if_neg h]; rfl
  refine Ev.bindc cut ?_
  have bd := wholeL_bd (restB s) 1 most (limB s) (by unfold limB; split <;> omega)
  have hw := wholel_is (restB s) 1 most (limB s) (by unfold limB; split <;> omega) (by omega)
  by_cases hm : minusB s
  · have er : restB s = s.extract 1 s.size := by unfold restB; rw [if_pos (Or.inl hm)]
    have el : limB s = 9223372036854775808 := by unfold limB; rw [if_pos hm]
    rw [if_pos hm]
    refine Ev.pos (decide_eq_true hm) (Ev.up ?_)
    simp only [figures_Signed.j0, decide_eq_true hm]
    rw [er, el] at hw bd
    rw [er, el]
    refine Ev.bind hw ?_
    rcases hq : wholeL (s.extract 1 s.size) 1 most 9223372036854775808 with ⟨n, e⟩
    rw [hq] at bd
    cases e with
    | none =>
      simp only at bd
      simp only [Option.isNone_none, if_true, if_pos hm]
      refine Ev.cast (Ev.now _) ?_
      rw [wrap_u64]
      congr 1
      unfold wrap64; omega
    | some e => exact Ev.now _
  · have el : limB s = 9223372036854775807 := by unfold limB; rw [if_neg hm]
    have er : restB s = if plusB s then s.extract 1 s.size else s := by
      unfold restB
      by_cases hp : plusB s
      · rw [if_pos (Or.inr hp), if_pos hp]
      · rw [if_neg (fun q => q.elim hm hp), if_neg hp]
    rw [if_neg hm]
    refine Ev.neg (by simp [hm]) (Ev.bindc trim (Ev.up ?_))
    simp only [figures_Signed.j0, decide_eq_false hm]
    rw [er, el] at hw bd
    rw [er, el]
    refine Ev.bind hw ?_
    rcases hq : wholeL (if plusB s then s.extract 1 s.size else s) 1 most 9223372036854775807 with ⟨n, e⟩
    rw [hq] at bd
    cases e with
    | none =>
      simp only at bd
      simp only [Option.isNone_none, if_true, if_neg hm, Bool.false_eq_true, if_false]
      refine Ev.cast (Ev.now _) ?_
      rw [wr (by omega)]
    | some e => exact Ev.now _
theorem signedV_I64 (s : ByteArray) (most : Int) : I64 (signedV s most).1 := by
  unfold signedV
  have bd := wholeL_bd (restB s) 1 most (limB s) (by unfold limB; split <;> omega)
  rcases hq : wholeL (restB s) 1 most (limB s) with ⟨n, e⟩
  rw [hq] at bd
  unfold limB at bd
  cases e with
  | none =>
    simp only at *
    unfold I64
    split <;> (rename_i h; simp only [h, if_true, if_false] at bd; omega)
  | some e => unfold I64; simp
theorem takeV_err (s : ByteArray) (least most L : Int) : (takeV s least most L).2.2 ≠ some 0 := by
  unfold takeV
  repeat' split
  all_goals simp
theorem wholeL_err (s : ByteArray) (least most L : Int) : (wholeL s least most L).2 ≠ some 0 := by
  have h := takeV_err s least most L
  unfold wholeL
  rcases hq : takeV s least most L with ⟨n, m, e⟩
  rw [hq] at h
  cases e with
  | none => simp only; split <;> simp
  | some e => exact h
theorem signedV_err (s : ByteArray) (most : Int) : (signedV s most).2 ≠ some 0 := by
  have h := wholeL_err (restB s) 1 most (limB s)
  unfold signedV
  rcases hq : wholeL (restB s) 1 most (limB s) with ⟨n, e⟩
  rw [hq] at h
  cases e with
  | none => simp
  | some e => exact h
/-- The figures' bytes. -/
def figset : List Int := [48, 49, 50, 51, 52, 53, 54, 55, 56, 57]
theorem figset_byt : Byt figset := by unfold Byt figset; decide
theorem figset_mem (x : Int) : x ∈ figset ↔ 48 ≤ x ∧ x ≤ 57 := by
  unfold figset
  simp only [List.mem_cons, List.mem_nil_iff, or_false]
  omega
def figrun (r : List Int) : List Int := r.takeWhile (fun x => decide (x ∈ figset))
/-- Is a text a week, formed as it should be? -/
def formR (m : Bool) (n : Nat) (i : Nat) (r : List Int) : Bool :=
  if i + r.length < n then false
  else if r.length < 4 then false
  else if r.length > 4 ∧ r.headD 0 = 48 then false
  else if m = true then decide (r ≠ [48, 48, 48, 48]) else true
def signN (a : List Int) : Nat := if comesV a 45 = true then 1 else 0
def formV (a : List Int) : Bool := formR (comesV a 45) a.length (signN a) (figrun (a.drop (signN a)))
theorem comes_len {r : List Int} {c : Int} (h : comesV r c = true) : 1 ≤ r.length := by
  unfold comesV at h
  cases r with
  | nil => simp at h
  | cons x r => simp
theorem z4_is {r : List Int} (h : Byt r) : ((strOfNums r).toList != ([48, 48, 48, 48] : List UInt8)) = decide (r ≠ [48, 48, 48, 48]) := by
  have e : ([48, 48, 48, 48] : List UInt8) = (strOfNums [48, 48, 48, 48]).toList := by rw [son_toList]; rfl
  rw [e, Bool.eq_iff_iff]
  simp only [bne_iff_ne, ne_eq, decide_eq_true_eq]
  constructor
  · intro q s; rw [s] at q; exact q rfl
  · intro q s; exact q (son_inj h (by unfold Byt; decide) s)
theorem form_tail (a : List Int) (i : Nat) (r : List Int) (hbr : Byt r) : Ev (fun _ => if (endV a (i + r.length) none).isNone = true then (if ((strOfNums r).size : Int) < 4 then (some false) else (if ((strOfNums r).size : Int) > 4 then (if 0 < ((strOfNums r).size : Int) then (if (bt (strOfNums r) 0) = 48 then (some false) else (if comesV a 45 = true then (some ((strOfNums r).toList != ([48, 48, 48, 48] : List UInt8))) else (some true))) else (none)) else (if comesV a 45 = true then (some ((strOfNums r).toList != ([48, 48, 48, 48] : List UInt8))) else (some true)))) else (some false)) (formR (comesV a 45) a.length i r) := by
  unfold endV formR
  by_cases h1 : i + r.length < a.length
  · simp only [if_pos h1]; exact Ev.neg (by simp) (Ev.now _)
  · simp only [if_neg h1, son_size]
    refine Ev.pos rfl ?_
    by_cases h2 : r.length < 4
    · rw [if_pos h2]; exact Ev.pos (by omega) (Ev.now _)
    · rw [if_neg h2]
      refine Ev.neg (by omega) ?_
      have tail : Ev (fun _ => if comesV a 45 = true then some ((strOfNums r).toList != ([48, 48, 48, 48] : List UInt8)) else some true) (if comesV a 45 = true then decide (r ≠ [48, 48, 48, 48]) else true) := by
        rw [z4_is hbr]
        refine Ev.ite (fun h => ?_) (fun h => ?_)
        · rw [if_pos h]; exact Ev.now _
        · rw [if_neg h]; exact Ev.now _
      refine Ev.ite (fun h3 => Ev.pos (by omega) ?_) (fun h3 => ?_)
      · have hd : bt (strOfNums r) 0 = r.headD 0 := by
          have := bt_at_son hbr (i := 0) (by omega)
          rw [show bt (strOfNums r) 0 = r[0]'(by omega) from this]
          cases r with
          | nil => simp at h2
          | cons x r => rfl
        rw [hd]
        refine Ev.ite (fun h4 => ?_) (fun h4 => ?_)
        · rw [if_pos ⟨by omega, h4⟩]; exact Ev.now _
        · exact Ev.cast tail (if_neg (fun q : _ ∧ _ => h4 q.2)).symm
      · exact Ev.cast tail (if_neg (fun q : _ ∧ _ => h3 (by have := q.1; omega))).symm
theorem formed_is (a : List Int) (hb : Byt a) (hl : a.length ≤ 140737488351232) : Ev (fun k => gps_formed.f k (strOfNums a)) (formV a) := by
  unfold gps_formed.f
  refine Ev.bindc (show scan_New_string.f (strOfNums a) = some (strOfNums a, ((0 : Nat) : Int), none) from rfl) (Ev.bindc (sTake_is a hb 0 none 45 (by omega) hl) ?_)
  simp only [leftV_none, List.drop_zero]
  obtain ⟨i, hi⟩ : ∃ i : Nat, i = signN a := ⟨_, rfl⟩
  have hi' : (if comesV a 45 = true then ((0 + 1 : Nat) : Int) else ((0 : Nat) : Int)) = (i : Int) := by rw [hi]; unfold signN; split <;> rfl
  have hil : i ≤ a.length := by
    rw [hi]; unfold signN; split
    · rename_i h; exact comes_len h
    · omega
  rw [hi', show (⟨#[48, 49, 50, 51, 52, 53, 54, 55, 56, 57]⟩ : ByteArray) = strOfNums figset from rfl]
  refine Ev.bind (sRun_is a figset hb figset_byt i none hil hl) ?_
  simp only [leftV_none]
  have hrl : i + ((a.drop i).takeWhile (fun x => decide (x ∈ figset))).length ≤ a.length := by
    have := tw_len (p := fun x => decide (x ∈ figset)) (a.drop i)
    rw [List.length_drop] at this; omega
  refine Ev.bindc (sEnd_is a _ none hrl) ?_
  unfold formV figrun
  rw [← hi]
  have hbr : Byt ((a.drop i).takeWhile (fun x => decide (x ∈ figset))) := fun x hx => hb x (List.mem_of_mem_drop ((List.takeWhile_prefix _).subset hx))
  exact form_tail a i _ hbr
/-- The moment that a text is. -/
def gparseV (l : List Int) : Int × Option Int :=
  let a := l.takeWhile (fun x => x != 58)
  if comesV (l.drop a.length) 58 = true ∧ formV a = true then
    let f := sfigV l (a.length + 1) none 6 6
    if endV l f.2.1.toNat f.2.2 = none then
      if a.length > 20 then (0, some 5)
      else match signedV (strOfNums a) 20 with
        | (w, none) => taiV w f.1
        | (_, some q) => (0, some q)
    else (0, some 2)
  else (0, some 2)
theorem sfigV_bd (l : List Int) (i : Nat) (least most : Int) (hi : i ≤ l.length) : (0 ≤ (sfigV l i none least most).1 ∧ (sfigV l i none least most).1 ≤ 9223372036854775807) ∧ 0 ≤ (sfigV l i none least most).2.1 ∧ (sfigV l i none least most).2.1 ≤ l.length := by
  have hle := takeV_le (strOfNums (l.drop i)) least most 9223372036854775807
  have hv := takeV_bd (strOfNums (l.drop i)) least most 9223372036854775807 (by decide)
  rw [son_size, List.length_drop] at hle
  unfold sfigV
  rcases hq : takeV (strOfNums (l.drop i)) least most 9223372036854775807 with ⟨n, m, q⟩
  rw [hq] at hle hv
  simp only at hle hv
  cases q with
  | none => simp only; omega
  | some q => simp only; omega
theorem gparse_is (l : List Int) (hb : Byt l) (hl : l.length ≤ 1000000) : Ev (fun k => gps_Parse.f k (strOfNums l)) (gparseV l) := by
  unfold gps_Parse.f
  refine Ev.bindc (show scan_New_string.f (strOfNums l) = some (strOfNums l, ((0 : Nat) : Int), none) from rfl) (Ev.bindc (sUntil_is l hb 0 none 58 (by decide) (by omega) (by omega)) ?_)
  simp only [leftV_none, List.drop_zero, Nat.zero_add]
  unfold gparseV
  have hal := tw_len (p := fun x => x != 58) l
  have hba : Byt (l.takeWhile (fun x => x != 58)) := fun x hx => hb x ((List.takeWhile_prefix _).subset hx)
  generalize l.takeWhile (fun x => x != 58) = a at *
  refine Ev.bindc (sTake_is l hb a.length none 58 (by omega) (by omega)) ?_
  rw [show leftV l a.length none = l.drop a.length from rfl]
  have bad : ∀ (s : ByteArray) (i : Int) (e : Option Int), Ev (fun k => gps_Parse.j0 k (strOfNums a) true s i e) (0, some 2) := by
    intro s i e
    refine Ev.up ?_
    simp only [gps_Parse.j0, if_true]
    exact Ev.now _
  by_cases hc : comesV (l.drop a.length) 58 = true
  · refine Ev.pos hc (Ev.bind (formed_is a hba (by omega)) ?_)
    simp only [if_pos hc]
    cases hf : formV a with
    | false => simp only [Bool.false_eq_true, and_false, if_false, Bool.not_false]; exact bad _ _ _
    | true =>
      simp only [hc, and_self, if_true, Bool.not_true]
      refine Ev.up ?_
      simp only [gps_Parse.j0, Bool.false_eq_true, if_false]
      have h1 := comes_len hc
      rw [List.length_drop] at h1
      refine Ev.bind (sFigures_is l hb (a.length + 1) none 6 6 (by omega) (by omega)) ?_
      have sb := sfigV_bd l (a.length + 1) 6 6 (by omega)
      rcases hq : sfigV l (a.length + 1) none 6 6 with ⟨n, j, e⟩
      rw [hq] at sb
      simp only at sb
      simp only
      obtain ⟨j', rfl⟩ : ∃ j' : Nat, j = (j' : Int) := ⟨j.toNat, by omega⟩
      refine Ev.bindc (sEnd_is l j' e (by omega)) ?_
      rw [Int.toNat_natCast]
      cases he : endV l j' e with
      | some q => exact Ev.neg (by simp) (Ev.cast (Ev.now _) (by simp))
      | none =>
        refine Ev.pos rfl ?_
        simp only [if_true, son_size]
        refine Ev.ite (fun h => ?_) (fun h => ?_)
        · rw [if_pos (by omega)]; exact Ev.now _
        · rw [if_neg (by omega)]
          refine Ev.bind (fsigned_is (strOfNums a) 20 (by rw [son_size]; omega)) ?_
          have hI := signedV_I64 (strOfNums a) 20
          rcases hs : signedV (strOfNums a) 20 with ⟨w, q⟩
          rw [hs] at hI
          cases q with
          | some q => exact Ev.neg (by simp) (Ev.now _)
          | none => exact Ev.pos rfl (Ev.bind (tai_is w n hI (by unfold I64; omega)) (Ev.now _))
  · refine Ev.neg hc (Ev.cast (bad _ _ _) ?_)
    exact (if_neg (fun q => hc q.1)).symm
theorem rleap_is (y : Int) : horologeref05_Leap.f y = some (decide (lp y = 1)) := by
  have t4 : Int.tmod y 4 = 0 ↔ y % 4 = 0 := by rw [tmod_is]; split <;> omega
  have t100 : Int.tmod y 100 = 0 ↔ y % 100 = 0 := by rw [tmod_is]; split <;> omega
  have t400 : Int.tmod y 400 = 0 ↔ y % 400 = 0 := by rw [tmod_is]; split <;> omega
  have b100 : (Int.tmod y 100 != 0) = !decide (y % 100 = 0) := by rw [← decide_eq_decide.mpr t100]; rfl
  unfold horologeref05_Leap.f lp
  simp only [t4, t400, b100]
  by_cases p400 : y % 400 = 0
  · have p4 : y % 4 = 0 := by omega
    simp [p4, p400]
  · by_cases p4 : y % 4 = 0 <;> by_cases p100 : y % 100 = 0 <;> simp [p4, p100, p400]
theorem rdays_is (y : Int) : horologeref05_Days.f y = some (365 + lp y) := by
  unfold horologeref05_Days.f
  have l := lp_01 y
  rw [rleap_is]
  simp only [Option.bind_some]
  by_cases h : lp y = 1
  · rw [if_pos (decide_eq_true h), h]; rfl
  · rw [if_neg (by rw [decide_eq_false h]; decide), show lp y = 0 by omega]; rfl
theorem rmonth_is (y m : Int) (h1 : 1 ≤ m) (h2 : m ≤ 12) : horologeref05_Month.f y m = some (ml y m) := by
  unfold horologeref05_Month.f
  simp only [Option.bind_some, rleap_is]
  have l := lp_01 y
  have w : wrap64 (m - 1) = m - 1 := wr (by omega)
  have hr : m ≠ 2 ∨ lp y = 0 → rd [31, 28, 31, 30, 31, 30, 31, 31, 30, 31, 30, 31] (m - 1) = ml y m := by
    intro h
    unfold ml
    have := m12 h1 h2
    rcases this with e | e | e | e | e | e | e | e | e | e | e | e <;> subst e
    all_goals first
      | (rw [if_neg (by decide)]; decide)
      | (rw [if_pos (by decide), h.resolve_left (by decide)]; decide)
  rw [w]
  by_cases h : m = 2
  · rw [if_pos h]
    by_cases q : lp y = 1
    · rw [if_pos (decide_eq_true q)]
      unfold ml
      rw [if_pos h, q]; rfl
    · rw [if_neg (by rw [decide_eq_false q]; decide), if_pos (by omega), if_pos (by simp; omega), hr (by omega)]
  · rw [if_neg h, if_pos (by omega), if_pos (by simp; omega), hr (by omega)]
theorem rstart_l2 (y n : Int) (hn : -100000000 ≤ n ∧ n ≤ 100000000) (m : Nat) : ∀ x : Int, 1970 ≤ x → x + m = y → y ≤ 2400 → Ev (fun k => horologeref05_Start.l2 k y (n + S x) x) (n + S y) := by
  induction m with
  | zero =>
    intro x h1 h2 h3
    refine Ev.up ?_
    simp only [horologeref05_Start.l2]
    rw [show x = y by omega]
    exact Ev.neg (by omega) (Ev.now _)
  | succ m ih =>
    intro x h1 h2 h3
    have l := lp_01 x
    have s := S_succ x
    have b1 := S_mono h1
    have b2 := S_mono (show x ≤ 2400 by omega)
    have e1 : S 2400 = 157054 := by decide
    have e0 := S_1970
    refine Ev.up ?_
    simp only [horologeref05_Start.l2, rdays_is, Option.bind_some]
    rw [wr (n := x + 1) (by omega), wr (n := n + S x + (365 + lp x)) (by omega)]
    have := ih (x + 1) (by omega) (by omega) h3
    rw [s] at this
    refine Ev.pos (by omega) ?_
    rw [show n + S x + (365 + lp x) = n + (S x + 365 + lp x) by omega]
    exact this
theorem rstart_l1 (m : Nat) : ∀ y n : Int, 1970 ≤ y → y < 2370 + 400 * m → m ≤ 80 → -50000000 ≤ n → n ≤ 50000000 - 146097 * m → Ev (fun k => horologeref05_Start.l1 k y n) (n + S y) := by
  induction m with
  | zero =>
    intro y n h1 h2 h3 h4 h5
    refine Ev.up ?_
    simp only [horologeref05_Start.l1]
    refine Ev.neg (by omega) ?_
    have := rstart_l2 y n (by omega) (y - 1970).toNat 1970 (by decide) (by omega) (by omega)
    rw [S_1970, Int.add_zero] at this
    exact this
  | succ m ih =>
    intro y n h1 h2 h3 h4 h5
    by_cases h : y ≥ 2370
    · refine Ev.up ?_
      simp only [horologeref05_Start.l1]
      refine Ev.pos h ?_
      rw [wr (n := y - 400) (by omega), wr (n := n + 146097) (by omega)]
      have := ih (y - 400) (n + 146097) (by omega) (by omega) (by omega) (by omega) (by omega)
      have e := S_400 (y - 400)
      rw [show y - 400 + 400 = y by omega] at e
      rw [show n + S y = n + 146097 + S (y - 400) by omega]
      exact this
    · exact ih y n h1 (by omega) (by omega) h4 (by omega)
theorem rstart_l0 (m : Nat) : ∀ y n : Int, 1970 - 400 * m ≤ y → y ≤ 30000 → m ≤ 80 → -50000000 + 146097 * m ≤ n → n ≤ 30000000 → Ev (fun k => horologeref05_Start.l0 k y n) (n + S y) := by
  induction m with
  | zero =>
    intro y n h1 h2 h3 h4 h5
    refine Ev.up ?_
    simp only [horologeref05_Start.l0]
    exact Ev.neg (by omega) (rstart_l1 80 y n (by omega) (by omega) (by omega) (by omega) (by omega))
  | succ m ih =>
    intro y n h1 h2 h3 h4 h5
    by_cases h : y < 1970
    · refine Ev.up ?_
      simp only [horologeref05_Start.l0]
      refine Ev.pos h ?_
      rw [wr (n := y + 400) (by omega), wr (n := n - 146097) (by omega)]
      have := ih (y + 400) (n - 146097) (by omega) (by omega) (by omega) (by omega) (by omega)
      rw [S_400] at this
      rw [show n + S y = n - 146097 + (S y + 146097) by omega]
      exact this
    · exact ih y n (by omega) h2 (by omega) (by omega) h5
theorem rstart_is (y : Int) (h1 : -30000 ≤ y) (h2 : y ≤ 30000) : Ev (fun k => horologeref05_Start.f k y) (S y) := by
  have := rstart_l0 80 y 0 (by omega) h2 (by omega) (by omega) (by omega)
  rw [Int.zero_add] at this
  exact this
theorem rof_l0 (y m n : Int) (h2 : m ≤ 12) (hn : -100000000 ≤ n ∧ n ≤ 100000000) (j : Nat) : ∀ x : Int, 1 ≤ x → x + j = m → Ev (fun k => horologeref05_Of.l0 k y m (n + cm y x) x) (n + cm y m) := by
  induction j with
  | zero =>
    intro x h1 h2
    refine Ev.up ?_
    simp only [horologeref05_Of.l0]
    rw [show x = m by omega]
    exact Ev.neg (by omega) (Ev.now _)
  | succ j ih =>
    intro x h1 h3
    have c := cm_succ y x h1 (by omega)
    have b := cm_bd y x h1 (by omega)
    have l := ml_bd y x
    refine Ev.up ?_
    simp only [horologeref05_Of.l0, rmonth_is y x h1 (by omega), Option.bind_some]
    rw [wr (n := x + 1) (by omega), wr (n := n + cm y x + ml y x) (by omega)]
    have := ih (x + 1) (by omega) (by omega)
    rw [c] at this
    refine Ev.pos (by omega) ?_
    rw [show n + cm y x + ml y x = n + (cm y x + ml y x) by omega]
    exact this
theorem rof_is (y m d : Int) (hy : -9999 ≤ y ∧ y ≤ 9999) (ho : ok y m d) : Ev (fun k => horologeref05_Of.f k y m d) (nm y m d) := by
  obtain ⟨h1, h2, h3, h4⟩ := ho
  have := ml_bd y m
  have b1 := S_mono (show y ≤ 10000 by omega)
  have b2 := S_mono (show -10000 ≤ y by omega)
  have e1 : S 10000 = 2932897 := by decide
  have e2 : S (-10000) = -4371953 := by decide
  unfold horologeref05_Of.f
  refine Ev.bind (rstart_is y (by omega) (by omega)) ?_
  rw [wr (n := S y + d) (by omega), wr (n := S y + d - 1) (by omega)]
  have := rof_l0 y m (S y + d - 1) h2 (by omega) (m - 1).toNat 1 (by decide) (by omega)
  rw [cm_one, Int.add_zero] at this
  rw [show nm y m d = S y + d - 1 + cm y m by unfold nm; omega]
  exact this
theorem Minus_is {a : Bool × List Int} {x : Int} {n : Nat} (ha : Is a x n) : ∃ r, horologeref01_Minus.f a.1 a.2 = some r ∧ Is r (-x) n := by
  have va := ha.abs
  have na := ha.neg
  unfold horologeref01_Minus.f
  by_cases h : a.1 = true
  · refine ⟨(false, a.2), by rw [if_pos h], Is.mk' ha.dg ha.tr ?_ ?_ ha.le⟩
    · have := na.mp h; rw [decide_eq_false (by omega)]
    · have := na.mp h; rw [va, if_pos this, if_neg (by omega)]
  · have hx : ¬ x < 0 := fun q => h (na.mpr q)
    rw [if_neg hx] at va
    refine ⟨(decide (0 < a.2.length), a.2), by rw [if_neg h], Is.mk' ha.dg ha.tr ?_ ?_ ha.le⟩
    · rw [len_pos ha.dg ha.tr, va]; exact decide_eq_decide.mpr ⟨fun _ => by omega, fun _ => by omega⟩
    · rw [va]; split <;> omega
theorem ris_l0 (c : Int) (m : Nat) : ∀ x : Int, 48 ≤ x → x + m = 58 → (48 ≤ c → x ≤ c) → Ev (fun k => horologeref02_Is.l0 k c x) (decide (figb c)) := by
  induction m with
  | zero =>
    intro x h1 h2 h3
    refine Ev.up ?_
    simp only [horologeref02_Is.l0]
    rw [decide_eq_false (fun q => by unfold figb at q; omega)]
    exact Ev.neg (by omega) (Ev.now _)
  | succ m ih =>
    intro x h1 h2 h3
    refine Ev.up ?_
    simp only [horologeref02_Is.l0]
    refine Ev.pos (by omega) (Ev.ite (fun h => ?_) (fun h => ?_))
    · rw [decide_eq_true (show figb c from ⟨by omega, by omega⟩)]; exact Ev.now _
    · rw [show (x + 1) % 256 = x + 1 by omega]
      exact ih (x + 1) (by omega) (by omega) (by omega)
theorem ris_is (c : Int) : Ev (fun k => horologeref02_Is.f k c) (decide (figb c)) := ris_l0 c 10 48 (by decide) (by decide) (by omega)
theorem many_l0 (s : ByteArray) (hs : s.size ≤ 140737488351232) (f : Nat) : ∀ i : Nat, i + f = s.size → Ev (fun k => horologeref02_Many.l0 k s i) ((runG s i f : Nat) : Int) := by
  induction f with
  | zero =>
    intro i hi
    refine Ev.up ?_
    simp only [horologeref02_Many.l0, runG]
    rw [← hi]
    exact Ev.neg (by omega) (Ev.cast (Ev.now _) (by omega))
  | succ f ih =>
    intro i hi
    refine Ev.up ?_
    simp only [horologeref02_Many.l0]
    refine Ev.pos (by omega) (Ev.pos (by omega) (Ev.bind (ris_is _) (Ev.ite (fun h => ?_) (fun h => ?_))))
    · rw [wr (n := (i : Int) + 1) (by omega)]
      unfold runG
      rw [if_pos (of_decide_eq_true h)]
      exact ih (i + 1) (by omega)
    · unfold runG
      rw [if_neg (fun q => h (decide_eq_true q))]
      exact Ev.now _
theorem many_is (s : ByteArray) (hs : s.size ≤ 140737488351232) : Ev (fun k => horologeref02_Many.f k s) ((runG s 0 s.size : Nat) : Int) := many_l0 s hs s.size 0 (by omega)
theorem rbig_l0 (s : ByteArray) (hs : s.size ≤ 100) (hf : ∀ i : Nat, i < s.size → figb (bt s i)) (m : Nat) : ∀ (i : Nat) (b : Bool × List Int), i + m = s.size → Is b (nv s i) (4 + 6 * i) →
    ∃ r, Ev (fun k => horologeref02_Big.l0 k s i b.1 b.2) r ∧ Is r (nv s s.size) 1000 := by
  induction m with
  | zero =>
    intro i b hi hb
    refine ⟨b, Ev.up ?_, ?_⟩
    · simp only [horologeref02_Big.l0]
      exact Ev.neg (by omega) (Ev.now _)
    · rw [← hi]; exact hb.mono (by omega)
  | succ m ih =>
    intro i b hi hb
    have hd := hf i (by omega)
    unfold figb at hd
    obtain ⟨t, t1, t2⟩ := Of_is 10 (by unfold I64; omega)
    obtain ⟨p, p1, p2⟩ := Times_is hb t2 (by omega) (by decide)
    obtain ⟨d, d1, d2⟩ := Of_is (bt s i - 48) (by unfold I64; omega)
    obtain ⟨q, q1, q2⟩ := Plus_is p2 d2 (by omega) (by decide)
    obtain ⟨r, r1, r2⟩ := ih (i + 1) q (by omega) (by simp only [nv]; exact q2.mono (by omega))
    refine ⟨r, Ev.up ?_, r2⟩
    simp only [horologeref02_Big.l0]
    rw [show (bt s i - 48) % 256 = bt s i - 48 by omega, wr (n := (i : Int) + 1) (by omega)]
    exact Ev.pos (by omega) (Ev.bind t1 (Ev.bind p1 (Ev.pos (by omega) (Ev.bind d1 (Ev.bind q1 r1)))))
theorem rbig_is (s : ByteArray) (hs : s.size ≤ 100) (hf : ∀ i : Nat, i < s.size → figb (bt s i)) : ∃ r, Ev (fun k => horologeref02_Big.f k s) r ∧ Is r (nv s s.size) 1000 := by
  obtain ⟨z, z1, z2⟩ := Of_is 0 (by unfold I64; omega)
  obtain ⟨r, r1, r2⟩ := rbig_l0 s hs hf s.size 0 z (by omega) (by simpa [nv] using z2)
  exact ⟨r, Ev.bind z1 r1, r2⟩
/-- An answer with an error's number in the place of an error. -/
def en (e : Option Int) : Int := match e with | none => 0 | some c => c
def rtakeV (s : ByteArray) (least most : Int) : Int × Int × Int :=
  if least < 1 ∨ least > most ∨ most > 20 then (0, 0, 1)
  else if (runV s most.toNat : Int) < least then (0, 0, 2)
  else if nv s (runV s most.toNat) > 9223372036854775807 then (0, 0, 5)
  else (nv s (runV s most.toNat), runV s most.toNat, 0)
theorem rtake_is (s : ByteArray) (least most : Int) (hs : s.size ≤ 140737488351232) : Ev (fun k => horologeref02_Take.f k s least most) (rtakeV s least most) := by
  unfold horologeref02_Take.f rtakeV
  have bad : (least < 1 ∨ least > most ∨ most > 20) → Ev (fun k => horologeref02_Take.j0 k s least most true) (if least < 1 ∨ least > most ∨ most > 20 then (0, 0, 1) else if (runV s most.toNat : Int) < least then (0, 0, 2) else if nv s (runV s most.toNat) > 9223372036854775807 then (0, 0, 5) else (nv s (runV s most.toNat), ((runV s most.toNat : Nat) : Int), 0)) := by
    intro h
    rw [if_pos h]
    refine Ev.up ?_
    simp only [horologeref02_Take.j0, if_true]
    exact Ev.now _
  refine Ev.ite (fun h => bad (Or.inl h)) (fun h1 => Ev.ite (fun h => bad (Or.inr (Or.inl h))) (fun h2 => ?_))
  by_cases h3 : most > 20
  · rw [decide_eq_true h3]; exact bad (Or.inr (Or.inr h3))
  · rw [decide_eq_false h3, if_neg (by omega)]
    have rb := runV_bd s most.toNat
    have hmain : Ev (fun k => horologeref02_Take.j1 k s least ((runV s most.toNat : Nat) : Int)) (if (runV s most.toNat : Int) < least then (0, 0, 2) else if nv s (runV s most.toNat) > 9223372036854775807 then (0, 0, 5) else (nv s (runV s most.toNat), ((runV s most.toNat : Nat) : Int), 0)) := by
      refine Ev.up ?_
      simp only [horologeref02_Take.j1]
      refine Ev.ite (fun h => ?_) (fun h => ?_)
      · rw [if_pos h]; exact Ev.now _
      · rw [if_neg h]
        have hx : (s.extract 0 ((runV s most.toNat : Nat) : Int).toNat).size = runV s most.toNat := size_extract s _ rb.2
        obtain ⟨r, r1, r2⟩ := rbig_is (s.extract 0 ((runV s most.toNat : Nat) : Int).toNat) (by rw [hx]; omega) (by
          rw [hx]
          intro i hi
          rw [Int.toNat_natCast, bt_extract s _ i hi rb.2]
          exact runG_figs s _ 0 i (by omega) hi)
        rw [hx] at r2
        rw [show nv (s.extract 0 ((runV s most.toNat : Nat) : Int).toNat) (runV s most.toNat) = nv s (runV s most.toNat) from nv_extract s _ rb.2 _ (Nat.le_refl _)] at r2
        have hsm := Small_is r2 (by decide)
        have h0 := nv_nonneg s (runV s most.toNat) (fun i hi => runG_figs s _ 0 i (by omega) hi)
        refine Ev.pos (by omega) (Ev.pos (by omega) (Ev.bind r1 (Ev.bind hsm ?_)))
        by_cases hg : nv s (runV s most.toNat) > 9223372036854775807
        · rw [smallV_out (by unfold I64; omega), if_pos hg]; exact Ev.neg (by decide) (Ev.now _)
        · rw [smallV_in (by unfold I64; omega), if_neg hg]; exact Ev.pos rfl (Ev.now _)
    have hr := runV_min s most.toNat
    refine Ev.up ?_
    simp only [horologeref02_Take.j0, Bool.false_eq_true, if_false]
    refine Ev.bind (many_is s hs) (Ev.ite (fun h => ?_) (fun h => ?_))
    · have e : ((runV s most.toNat : Nat) : Int) = most := by omega
      exact Ev.congr (fun k => by rw [e]) hmain
    · rw [show ((runG s 0 s.size : Nat) : Int) = ((runV s most.toNat : Nat) : Int) by omega]
      exact hmain
theorem rwhole_is (s : ByteArray) (least most : Int) (hs : s.size ≤ 140737488351232) : Ev (fun k => horologeref02_Whole.f k s least most) ((wholeV s least most).1, en (wholeV s least most).2) := by
  unfold horologeref02_Whole.f
  refine Ev.bind (rtake_is s least most hs) ?_
  unfold rtakeV wholeV
  by_cases h1 : least < 1 ∨ least > most ∨ most > 20
  · simp only [if_pos h1]; exact Ev.now _
  · simp only [if_neg h1]
    by_cases h2 : (runV s most.toNat : Int) < least
    · simp only [if_pos h2]; exact Ev.now _
    · simp only [if_neg h2]
      by_cases h3 : nv s (runV s most.toNat) > 9223372036854775807
      · simp only [if_pos h3]; exact Ev.now _
      · simp only [if_neg h3, if_true]
        refine Ev.ite (fun h => ?_) (fun h => ?_)
        · rw [if_pos (by omega)]; exact Ev.now _
        · rw [if_neg (by omega)]; exact Ev.now _
theorem rbegin_is : Ev (fun k => horologeref14_Begin.f k) 315964819 := by
  unfold horologeref14_Begin.f
  refine Ev.bind (rof_is 1980 1 6 (by decide) (by decide)) (Ev.cast (Ev.now _) ?_)
  rw [show nm 1980 1 6 = 3657 by decide]
  rw [wr (n := 3657 * 86400) (by omega), wr (by omega)]
  rfl
theorem rtai_is (w s : Int) (hw : I64 w) (hs : I64 s) : Ev (fun k => horologeref14_Tai.f k w s) ((taiV w s).1, en (taiV w s).2) := by
  unfold horologeref14_Tai.f taiV
  have bad : ¬ (0 ≤ s ∧ s ≤ 604799) → Ev (fun k => horologeref14_Tai.j0 k w s true) (((if 0 ≤ s ∧ s ≤ 604799 then (if I64 (w * 604800) then (if I64 (w * 604800 + s) then (if I64 (w * 604800 + s + 315964819) then (w * 604800 + s + 315964819, none) else (0, some 5)) else (0, some 5)) else (0, some 5)) else (0, some 1)) : Int × Option Int).1, en ((if 0 ≤ s ∧ s ≤ 604799 then (if I64 (w * 604800) then (if I64 (w * 604800 + s) then (if I64 (w * 604800 + s + 315964819) then (w * 604800 + s + 315964819, none) else (0, some 5)) else (0, some 5)) else (0, some 5)) else (0, some 1)) : Int × Option Int).2) := by
    intro h
    rw [if_neg h]
    refine Ev.up ?_
    simp only [horologeref14_Tai.j0, if_true]
    exact Ev.now _
  refine Ev.ite (fun h => bad (by omega)) (fun h => ?_)
  by_cases h2 : s > 604799
  · rw [decide_eq_true h2]; exact bad (by omega)
  · rw [decide_eq_false h2, if_pos (by omega)]
    refine Ev.up ?_
    simp only [horologeref14_Tai.j0, Bool.false_eq_true, if_false]
    obtain ⟨a, a1, a2⟩ := Of_is w hw
    obtain ⟨b, b1, b2⟩ := Of_is 604800 (by unfold I64; omega)
    obtain ⟨m, m1, m2⟩ := Times_is a2 b2 (by decide) (by decide)
    obtain ⟨c, c1, c2⟩ := Of_is s hs
    obtain ⟨p, p1, p2⟩ := Plus_is m2 c2 (by decide) (by decide)
    obtain ⟨d, d1, d2⟩ := Of_is 315964819 (by unfold I64; omega)
    obtain ⟨q, q1, q2⟩ := Plus_is p2 d2 (by decide) (by decide)
    refine Ev.bind a1 (Ev.bind b1 (Ev.bind m1 (Ev.bind (Small_is m2 (by decide)) ?_)))
    by_cases h3 : I64 (w * 604800)
    · rw [smallV_in h3, if_pos h3]
      refine Ev.pos rfl (Ev.bind c1 (Ev.bind p1 (Ev.bind (Small_is p2 (by decide)) ?_)))
      by_cases h4 : I64 (w * 604800 + s)
      · rw [smallV_in h4, if_pos h4]
        refine Ev.pos rfl (Ev.bind rbegin_is (Ev.bind d1 (Ev.bind q1 (Ev.bind (Small_is q2 (by decide)) (Ev.cast (Ev.now _) ?_)))))
        by_cases h5 : I64 (w * 604800 + s + 315964819)
        · rw [smallV_in h5, if_pos h5]; rfl
        · rw [smallV_out h5, if_neg h5]; rfl
      · rw [smallV_out h4, if_neg h4]
        exact Ev.neg (by decide) (Ev.now _)
    · rw [smallV_out h3, if_neg h3]
      exact Ev.neg (by decide) (Ev.now _)
theorem runG_son (t : List Int) (hb : Byt t) (m : Nat) : ∀ i : Nat, i + m = t.length → runG (strOfNums t) i m = i + (figrun (t.drop i)).length := by
  induction m with
  | zero =>
    intro i hi
    rw [List.drop_of_length_le (by omega)]; rfl
  | succ m ih =>
    intro i hi
    have hx := bt_at_son hb (i := i) (by omega)
    unfold runG
    rw [hx, List.drop_eq_getElem_cons (by omega)]
    unfold figrun
    rw [List.takeWhile_cons]
    by_cases h : figb t[i]
    · rw [if_pos h, if_pos (by exact decide_eq_true ((figset_mem _).mpr h)), ih (i + 1) (by omega)]
      unfold figrun
      rw [List.length_cons]; omega
    · rw [if_neg h, if_neg (by simpa using fun q => h ((figset_mem _).mp q))]; rfl
theorem many_son (t : List Int) (hb : Byt t) (hl : t.length ≤ 100) : Ev (fun k => horologeref02_Many.f k (strOfNums t)) ((figrun t).length : Int) := by
  have h := many_is (strOfNums t) (by rw [son_size]; omega)
  rw [son_size, runG_son t hb t.length 0 (by omega), List.drop_zero, Nat.zero_add] at h
  exact h
theorem figrun_figs (t : List Int) : ∀ x ∈ figrun t, 48 ≤ x ∧ x ≤ 57 := by
  intro x hx
  have := List.all_eq_true.mp (List.all_takeWhile (p := fun x => decide (x ∈ figset)) (l := t)) x hx
  exact (figset_mem x).mp (of_decide_eq_true this)
theorem figrun_len (t : List Int) : (figrun t).length ≤ t.length := tw_len t
theorem figrun_take (t : List Int) : t.take (figrun t).length = figrun t := tw_take t
theorem figrun_app {r : List Int} (h : ∀ x ∈ r, 48 ≤ x ∧ x ≤ 57) (rest : List Int) : figrun (r ++ 58 :: rest) = r := by
  unfold figrun
  rw [List.takeWhile_append_of_pos (fun x hx => decide_eq_true ((figset_mem x).mpr (h x hx))), List.takeWhile_cons, if_neg (by decide), List.append_nil]
/-- What a text is, past its sign; the figures there. -/
def ttV (l : List Int) : List Int := l.drop (signN l)
def rrV (l : List Int) : List Int := figrun (ttV l)
def okV (l : List Int) : Prop := 4 ≤ (rrV l).length ∧ ¬ ((rrV l).length > 4 ∧ (rrV l).headD 0 = 48) ∧ (∃ rest, ttV l = rrV l ++ 58 :: rest ∧ rest.length = 6 ∧ ∀ x ∈ rest, 48 ≤ x ∧ x ≤ 57) ∧ ¬ (comesV l 45 = true ∧ rrV l = [48, 48, 48, 48])
theorem form_elim {a : List Int} (h : formV a = true) : (∀ x ∈ a.drop (signN a), 48 ≤ x ∧ x ≤ 57) ∧ 4 ≤ (a.drop (signN a)).length ∧ ¬ ((a.drop (signN a)).length > 4 ∧ (a.drop (signN a)).headD 0 = 48) ∧ ¬ (comesV a 45 = true ∧ a.drop (signN a) = [48, 48, 48, 48]) := by
  unfold formV formR at h
  have hf := figrun_figs (a.drop (signN a))
  have hl := figrun_len (a.drop (signN a))
  have ht := figrun_take (a.drop (signN a))
  rw [List.length_drop] at hl
  by_cases h1 : signN a + (figrun (a.drop (signN a))).length < a.length
  · rw [if_pos h1] at h; exact absurd h (by decide)
  · rw [if_neg h1] at h
    have e : figrun (a.drop (signN a)) = a.drop (signN a) := by
      rw [← ht, List.take_of_length_le (by rw [List.length_drop]; omega)]
    rw [e] at h hf
    by_cases h2 : (a.drop (signN a)).length < 4
    · rw [if_pos h2] at h; exact absurd h (by decide)
    · rw [if_neg h2] at h
      by_cases h3 : (a.drop (signN a)).length > 4 ∧ (a.drop (signN a)).headD 0 = 48
      · rw [if_pos h3] at h; exact absurd h (by decide)
      · rw [if_neg h3] at h
        refine ⟨hf, by omega, h3, ?_⟩
        rintro ⟨h4, h5⟩
        rw [if_pos h4, h5] at h
        exact absurd h (by decide)
theorem comes_app {a b : List Int} (c : Int) (h : a ≠ []) : comesV (a ++ b) c = comesV a c := by
  unfold comesV
  cases a with
  | nil => exact absurd rfl h
  | cons x a => rfl
theorem comes_elim {r : List Int} {c : Int} (h : comesV r c = true) : ∃ t, r = c :: t := by
  unfold comesV at h
  cases r with
  | nil => simp at h
  | cons x t =>
    simp at h
    exact ⟨t, by rw [h]⟩
theorem six_elim {rest : List Int} (hb : Byt rest) {n m : Int} (h : takeV (strOfNums rest) 6 6 9223372036854775807 = (n, m, none)) : m = 6 ∧ 6 ≤ rest.length ∧ ∀ i : Nat, i < 6 → ∀ h : i < rest.length, 48 ≤ rest[i] ∧ rest[i] ≤ 57 := by
  have hr := runV_bd (strOfNums rest) (6 : Int).toNat
  have hf := runV_figs (strOfNums rest) (6 : Int).toNat
  rw [son_size] at hr
  have e6 : (6 : Int).toNat = 6 := rfl
  rw [e6] at hr hf
  unfold takeV at h
  rw [if_neg (by omega), e6] at h
  by_cases h1 : (runV (strOfNums rest) 6 : Int) < 6
  · rw [if_pos h1] at h; simp at h
  · rw [if_neg h1] at h
    have e : runV (strOfNums rest) 6 = 6 := by omega
    rw [e] at h hf
    by_cases h2 : nv (strOfNums rest) 6 > 9223372036854775807
    · rw [if_pos h2] at h; simp at h
    · rw [if_neg h2] at h
      simp only [Prod.mk.injEq] at h
      refine ⟨by have := h.2.1; omega, by omega, ?_⟩
      intro i hi hl
      have := hf i hi
      rw [bt_at_son hb hl] at this
      exact this
theorem signN_le (a : List Int) : signN a ≤ a.length := by
  unfold signN
  split
  · rename_i h; exact comes_len h
  · omega
/-- What passes is as it should be. -/
theorem pass_ok {l : List Int} (hb : Byt l) (a : List Int) (ha : a = l.takeWhile (fun x => x != 58)) (h1 : comesV (l.drop a.length) 58 = true) (h2 : formV a = true)
    (h3 : endV l (sfigV l (a.length + 1) none 6 6).2.1.toNat (sfigV l (a.length + 1) none 6 6).2.2 = none) : okV l := by
  obtain ⟨rest, hrest⟩ := comes_elim h1
  have hl : l = a ++ 58 :: rest := by
    have := List.take_append_drop a.length l
    rw [hrest] at this
    rw [← this]
    congr 1
    rw [ha]; exact tw_take l
  obtain ⟨f1, f2, f3, f4⟩ := form_elim h2
  have ane : a ≠ [] := by
    intro e; rw [e] at f2; simp at f2
  have hc : comesV l 45 = comesV a 45 := by rw [hl]; exact comes_app 45 ane
  have hs : signN l = signN a := by unfold signN; rw [hc]
  have ht : ttV l = a.drop (signN a) ++ 58 :: rest := by
    unfold ttV
    rw [hs, hl, List.drop_append_of_le_length (signN_le a)]
  have hr : rrV l = a.drop (signN a) := by unfold rrV; rw [ht]; exact figrun_app f1 rest
  have hd : l.drop (a.length + 1) = rest := by
    rw [← List.drop_drop, hrest]; rfl
  have hbr : Byt rest := by rw [← hd]; exact hb.drop _
  unfold okV
  rw [hr, hc, ht]
  refine ⟨f2, f3, ⟨rest, rfl, ?_⟩, f4⟩
  unfold sfigV at h3
  simp only [hd] at h3
  rcases hq : takeV (strOfNums rest) 6 6 9223372036854775807 with ⟨n, m, q⟩
  rw [hq] at h3
  cases q with
  | some q => simp [endV] at h3
  | none =>
    obtain ⟨e6, hlen, hfig⟩ := six_elim hbr hq
    subst e6
    simp only [endV] at h3
    have hll : l.length = a.length + 1 + rest.length := by rw [hl]; simp; omega
    by_cases h4 : (((a.length + 1 : Nat) : Int) + 6).toNat < l.length
    · rw [if_pos h4] at h3; simp at h3
    · refine ⟨by omega, ?_⟩
      intro x hx
      obtain ⟨i, hi, rfl⟩ := List.getElem_of_mem hx
      exact hfig i (by omega) hi
theorem gparse_bad {l : List Int} (hb : Byt l) (h : ¬ okV l) : gparseV l = (0, some 2) := by
  unfold gparseV
  simp only []
  by_cases h1 : comesV (l.drop (l.takeWhile (fun x => x != 58)).length) 58 = true ∧ formV (l.takeWhile (fun x => x != 58)) = true
  · rw [if_pos h1]
    by_cases h2 : endV l (sfigV l ((l.takeWhile (fun x => x != 58)).length + 1) none 6 6).2.1.toNat (sfigV l ((l.takeWhile (fun x => x != 58)).length + 1) none 6 6).2.2 = none
    · exact absurd (pass_ok hb _ rfl h1.1 h1.2 h2) h
    · rw [if_neg h2]
  · rw [if_neg h1]
theorem nv_ge (s : ByteArray) (n : Nat) (h : ∀ i : Nat, i < n + 1 → figb (bt s i)) (h1 : 49 ≤ bt s 0) : (10 : Int) ^ n ≤ nv s (n + 1) := by
  induction n with
  | zero => simp only [nv]; rw [Int.pow_zero]; show (1 : Int) ≤ 0 * 10 + (bt s ((0 : Nat) : Int) - 48); have : bt s ((0 : Nat) : Int) = bt s 0 := rfl; omega
  | succ n ih =>
    have := ih (fun i hi => h i (by omega))
    have hb := h (n + 1) (by omega)
    unfold figb at hb
    rw [nv, Int.pow_succ]; omega
/-- The number of a row of figures. -/
def numV (r : List Int) : Int := nv (strOfNums r) r.length
theorem fig_byt {r : List Int} (h : ∀ x ∈ r, 48 ≤ x ∧ x ≤ 57) : Byt r := fun x hx => by have := h x hx; omega
theorem fig_bt {r : List Int} (h : ∀ x ∈ r, 48 ≤ x ∧ x ≤ 57) (i : Nat) (hi : i < r.length) : figb (bt (strOfNums r) i) := by
  rw [bt_at_son (fig_byt h) hi]
  exact h _ (List.getElem_mem hi)
theorem numV_nonneg {r : List Int} (h : ∀ x ∈ r, 48 ≤ x ∧ x ≤ 57) : 0 ≤ numV r := nv_nonneg _ _ (fun i hi => fig_bt h i hi)
theorem numV_lt {r : List Int} (h : ∀ x ∈ r, 48 ≤ x ∧ x ≤ 57) : numV r < 10 ^ r.length := nv_lt _ _ (fun i hi => fig_bt h i hi)
theorem numV_ge {r : List Int} (h : ∀ x ∈ r, 48 ≤ x ∧ x ≤ 57) (n : Nat) (hn : n + 1 ≤ r.length) (h0 : r.headD 0 ≠ 48) : (10 : Int) ^ n ≤ numV r := by
  have hb : 49 ≤ bt (strOfNums r) 0 := by
    rw [show bt (strOfNums r) 0 = r[0]'(by omega) from bt_at_son (fig_byt h) (i := 0) (by omega)]
    have := h _ (List.getElem_mem (l := r) (n := 0) (by omega))
    cases r with
    | nil => simp at hn
    | cons x r =>
      have e : (x :: r).headD 0 = x := rfl
      rw [e] at h0
      show 49 ≤ x
      have e2 : (x :: r)[0] = x := rfl
      rw [e2] at this
      omega
  have a := nv_ge (strOfNums r) n (fun i hi => fig_bt h i (by omega)) hb
  have b := nv_mono (strOfNums r) (m := n + 1) (n := r.length) (fun i hi => fig_bt h i hi) hn
  unfold numV; omega
theorem figrun_self {r : List Int} (h : ∀ x ∈ r, 48 ≤ x ∧ x ≤ 57) : figrun r = r := by
  unfold figrun
  apply tw_all
  intro x hx
  exact decide_eq_true ((figset_mem x).mpr (h x hx))
theorem runV_figs_all {r : List Int} (h : ∀ x ∈ r, 48 ≤ x ∧ x ≤ 57) (m : Nat) (hm : r.length ≤ m) : runV (strOfNums r) m = r.length := by
  rw [runV_min, son_size, runG_son r (fig_byt h) r.length 0 (by omega), List.drop_zero, figrun_self h]; omega
theorem wholeL_figs {r : List Int} (h : ∀ x ∈ r, 48 ≤ x ∧ x ≤ 57) (h1 : 1 ≤ r.length) (h2 : r.length ≤ 20) (L : Int) : wholeL (strOfNums r) 1 20 L = if numV r > L then (0, some 5) else (numV r, none) := by
  unfold wholeL takeV
  rw [runV_figs_all h (20 : Int).toNat (by show r.length ≤ 20; omega), if_neg (by omega), if_neg (by omega)]
  unfold numV
  by_cases hg : nv (strOfNums r) r.length > L
  · simp only [if_pos hg]
  · simp only [if_neg hg, son_size]
    rw [if_neg (by omega)]
theorem takeV_six {r : List Int} (h : ∀ x ∈ r, 48 ≤ x ∧ x ≤ 57) (h6 : r.length = 6) : takeV (strOfNums r) 6 6 9223372036854775807 = (numV r, 6, none) := by
  have hl := numV_lt h
  have e : (10 : Int) ^ 6 = 1000000 := by decide
  rw [h6, e] at hl
  unfold takeV
  rw [runV_figs_all h (6 : Int).toNat (by show r.length ≤ 6; omega), if_neg (by omega), if_neg (by omega), if_neg (by unfold numV at hl; omega), h6]
  unfold numV
  rw [h6]; rfl
theorem signed_minus {r : List Int} (h : ∀ x ∈ r, 48 ≤ x ∧ x ≤ 57) (h1 : 1 ≤ r.length) (h2 : r.length ≤ 20) : signedV (strOfNums (45 :: r)) 20 = if I64 (-numV r) then (-numV r, none) else (0, some 5) := by
  have hb : Byt (45 :: r) := by
    intro x hx
    rcases List.mem_cons.mp hx with e | hx
    · omega
    · have := h x hx; omega
  have hm : minusB (strOfNums (45 :: r)) := ⟨by rw [son_size]; simp, bt_at_son hb (i := 0) (by simp)⟩
  have hr : restB (strOfNums (45 :: r)) = strOfNums r := by
    unfold restB
    rw [if_pos (Or.inl hm), son_cut]; rfl
  have n0 := numV_nonneg h
  unfold signedV
  rw [hr, show limB (strOfNums (45 :: r)) = 9223372036854775808 by unfold limB; rw [if_pos hm], wholeL_figs h h1 h2]
  by_cases hg : numV r > 9223372036854775808
  · rw [if_pos hg, if_neg (by unfold I64; omega)]
  · rw [if_neg hg, if_pos (by unfold I64; omega)]
    simp only [if_pos hm]
theorem signed_plain {r : List Int} (h : ∀ x ∈ r, 48 ≤ x ∧ x ≤ 57) (h1 : 1 ≤ r.length) (h2 : r.length ≤ 20) : signedV (strOfNums r) 20 = if I64 (numV r) then (numV r, none) else (0, some 5) := by
  have hf := fig_bt h 0 (by omega)
  unfold figb at hf
  have e0 : bt (strOfNums r) ((0 : Nat) : Int) = bt (strOfNums r) 0 := rfl
  have hm : ¬ minusB (strOfNums r) := fun q => by unfold minusB at q; omega
  have hp : ¬ plusB (strOfNums r) := fun q => by unfold plusB at q; omega
  have hr : restB (strOfNums r) = strOfNums r := by
    unfold restB
    rw [if_neg (fun q => q.elim hm hp)]
  have n0 := numV_nonneg h
  unfold signedV
  rw [hr, show limB (strOfNums r) = 9223372036854775807 by unfold limB; rw [if_neg hm], wholeL_figs h h1 h2]
  by_cases hg : numV r > 9223372036854775807
  · rw [if_pos hg, if_neg (by unfold I64; omega)]
  · rw [if_neg hg, if_pos (by unfold I64; omega)]
    simp only [if_neg hm]
def wkV (m : Bool) (r : List Int) : Int := if m = true then -numV r else numV r
/-- The moment of a text that is as it should be. -/
def momV (m : Bool) (r rest : List Int) : Int × Option Int := if I64 (wkV m r) then taiV (wkV m r) (numV rest) else (0, some 5)
theorem form_intro {a : List Int} (h0 : ∀ x ∈ a.drop (signN a), 48 ≤ x ∧ x ≤ 57) (h1 : 4 ≤ (a.drop (signN a)).length) (h2 : ¬ ((a.drop (signN a)).length > 4 ∧ (a.drop (signN a)).headD 0 = 48)) (h3 : ¬ (comesV a 45 = true ∧ a.drop (signN a) = [48, 48, 48, 48])) : formV a = true := by
  unfold formV formR
  rw [figrun_self h0, if_neg (by rw [List.length_drop]; have := signN_le a; omega), if_neg (by omega), if_neg h2]
  split
  · rename_i h; exact decide_eq_true (fun q => h3 ⟨h, q⟩)
  · rfl
theorem gparse_ok {l : List Int} (hb : Byt l) {rest : List Int} (h1 : 4 ≤ (rrV l).length) (h2 : ¬ ((rrV l).length > 4 ∧ (rrV l).headD 0 = 48)) (h3 : ttV l = rrV l ++ 58 :: rest) (h4 : rest.length = 6) (h5 : ∀ x ∈ rest, 48 ≤ x ∧ x ≤ 57)
    (h6 : ¬ (comesV l 45 = true ∧ rrV l = [48, 48, 48, 48])) : gparseV l = momV (comesV l 45) (rrV l) rest := by
  have hf : ∀ x ∈ rrV l, 48 ≤ x ∧ x ≤ 57 := figrun_figs _
  obtain ⟨p, hp, hpl, hp58⟩ : ∃ p, l = p ++ (rrV l ++ 58 :: rest) ∧ p = (if comesV l 45 = true then [45] else []) ∧ (∀ x ∈ p, (fun x : Int => x != 58) x = true) := by
    refine ⟨if comesV l 45 = true then [45] else [], ?_, rfl, ?_⟩
    · rw [← h3]
      unfold ttV signN
      by_cases hc : comesV l 45 = true
      · rw [if_pos hc, if_pos hc]
        obtain ⟨t, ht⟩ := comes_elim hc
        rw [ht]; rfl
      · rw [if_neg hc, if_neg hc]; rfl
    · intro x hx
      split at hx
      · rw [List.mem_singleton.mp hx]; rfl
      · cases hx
  generalize hr : rrV l = r at *
  generalize hc : comesV l 45 = m at *
  have ha : l.takeWhile (fun x => x != 58) = p ++ r := by
    rw [hp, ← List.append_assoc, List.takeWhile_append_of_pos, List.takeWhile_cons, if_neg (by decide), List.append_nil]
    intro x hx
    rcases List.mem_append.mp hx with q | q
    · exact hp58 x q
    · have := hf x q
      simp only [bne_iff_ne, ne_eq]; omega
  have hd : l.drop (p ++ r).length = 58 :: rest := by
    rw [hp, ← List.append_assoc]
    exact List.drop_left
  have hd1 : l.drop ((p ++ r).length + 1) = rest := by rw [← List.drop_drop, hd]; rfl
  have hne : p ++ r ≠ [] := by
    intro q
    have := congrArg List.length q
    rw [List.length_append, List.length_nil] at this
    omega
  have hca : comesV (p ++ r) 45 = m := by
    rw [← hc, hp, ← List.append_assoc]
    exact (comes_app 45 hne).symm
  have hsa : (p ++ r).drop (signN (p ++ r)) = r := by
    unfold signN
    rw [hca, hpl]
    cases m <;> rfl
  have hpn : p.length = if m = true then 1 else 0 := by rw [hpl]; cases m <;> rfl
  have hform : formV (p ++ r) = true := form_intro (by rw [hsa]; exact hf) (by rw [hsa]; exact h1) (by rw [hsa]; exact h2) (by rw [hsa, hca]; exact h6)
  have hll : l.length = (p ++ r).length + 7 := by rw [hp]; simp; omega
  unfold gparseV
  rw [ha]
  simp only []
  rw [if_pos ⟨by rw [hd]; rfl, hform⟩]
  have hsf : sfigV l ((p ++ r).length + 1) none 6 6 = (numV rest, (((p ++ r).length + 1 : Nat) : Int) + 6, none) := by
    unfold sfigV
    simp only [hd1]
    rw [takeV_six h5 h4]
  rw [hsf]
  simp only []
  rw [if_pos (show endV l ((((p ++ r).length + 1 : Nat) : Int) + 6).toNat none = none by unfold endV; simp only []; rw [if_neg (by omega)])]
  unfold momV
  have e19 : (10 : Int) ^ 19 = 10000000000000000000 := by decide
  by_cases hlen : (p ++ r).length > 20
  · rw [if_pos hlen]
    rw [List.length_append, hpn] at hlen
    have hrl : 20 ≤ r.length := by
      cases m with
      | true => rw [if_pos rfl] at hlen; omega
      | false => rw [if_neg (by decide)] at hlen; omega
    have hge := numV_ge hf 19 (by omega) (fun q => h2 ⟨by omega, q⟩)
    rw [e19] at hge
    rw [if_neg]
    unfold I64 wkV
    cases m with
    | true => rw [if_pos rfl]; omega
    | false => rw [if_neg (by decide)]; omega
  · rw [if_neg hlen]
    rw [List.length_append, hpn] at hlen
    rw [hpl]
    cases m with
    | true =>
      simp only [if_true] at hlen
      rw [if_pos rfl, show ([45] ++ r : List Int) = 45 :: r from rfl, signed_minus hf (by omega) (by omega)]
      unfold wkV
      simp only [if_true]
      by_cases hi : I64 (-numV r)
      · simp only [if_pos hi]
      · simp only [if_neg hi]
    | false =>
      simp only [Bool.false_eq_true, if_false] at hlen
      rw [if_neg (by decide), List.nil_append, signed_plain hf (by omega) (by omega)]
      unfold wkV
      simp only [Bool.false_eq_true, if_false]
      by_cases hi : I64 (numV r)
      · simp only [if_pos hi]
      · simp only [if_neg hi]
theorem head_get {r : List Int} (h : 0 < r.length) : r[0] = r.headD 0 := by
  cases r with
  | nil => simp at h
  | cons x r => rfl
theorem rj2_bad (t : ByteArray) (m : Bool) (k : Int) : Ev (fun n => horologeref14_Parse.j2 n t m k true) (0, 2) := by
  refine Ev.up ?_
  simp only [horologeref14_Parse.j2, if_true]
  exact Ev.now _
/-- As the ruler reads it, a text behind its sign. -/
theorem rj1_is (t : List Int) (m : Bool) (hb : Byt t) (hl : t.length ≤ 100) (v : Int × Option Int)
    (hok : ∀ rest, 4 ≤ (figrun t).length → ¬ ((figrun t).length > 4 ∧ (figrun t).headD 0 = 48) → t = figrun t ++ 58 :: rest → rest.length = 6 → (∀ x ∈ rest, 48 ≤ x ∧ x ≤ 57) → ¬ (m = true ∧ figrun t = [48, 48, 48, 48]) → v = momV m (figrun t) rest)
    (hbad : ¬ (4 ≤ (figrun t).length ∧ ¬ ((figrun t).length > 4 ∧ (figrun t).headD 0 = 48) ∧ (∃ rest, t = figrun t ++ 58 :: rest ∧ rest.length = 6 ∧ ∀ x ∈ rest, 48 ≤ x ∧ x ≤ 57) ∧ ¬ (m = true ∧ figrun t = [48, 48, 48, 48])) → v = (0, some 2)) :
    Ev (fun n => horologeref14_Parse.j1 n (strOfNums t) m) (v.1, en v.2) := by
  have hf := figrun_figs t
  have hrl := figrun_len t
  have hrt := figrun_take t
  have bad : ¬ (4 ≤ (figrun t).length ∧ ¬ ((figrun t).length > 4 ∧ (figrun t).headD 0 = 48) ∧ (∃ rest, t = figrun t ++ 58 :: rest ∧ rest.length = 6 ∧ ∀ x ∈ rest, 48 ≤ x ∧ x ≤ 57) ∧ ¬ (m = true ∧ figrun t = [48, 48, 48, 48])) → Ev (fun n => horologeref14_Parse.j2 n (strOfNums t) m ((figrun t).length : Int) true) (v.1, en v.2) := by
    intro q
    rw [hbad q]
    exact rj2_bad _ _ _
  refine Ev.up ?_
  simp only [horologeref14_Parse.j1]
  refine Ev.bind (many_son t hb hl) ?_
  have good : ∀ rest, t = figrun t ++ 58 :: rest → rest.length = 6 → (∀ x ∈ rest, 48 ≤ x ∧ x ≤ 57) → 4 ≤ (figrun t).length → ¬ ((figrun t).length > 4 ∧ (figrun t).headD 0 = 48) → Ev (fun n => horologeref14_Parse.j2 n (strOfNums t) m ((figrun t).length : Int) false) (v.1, en v.2) := by
    intro rest ht h6 hr h4 h48
    refine Ev.up ?_
    simp only [horologeref14_Parse.j2, Bool.false_eq_true, if_false]
    have j3b : Ev (fun n => horologeref14_Parse.j3 n (strOfNums t) m ((figrun t).length : Int) true) (0, 2) := by
      refine Ev.up ?_
      simp only [horologeref14_Parse.j3, if_true]
      exact Ev.now _
    have j3g : ¬ (m = true ∧ figrun t = [48, 48, 48, 48]) → Ev (fun n => horologeref14_Parse.j3 n (strOfNums t) m ((figrun t).length : Int) false) (v.1, en v.2) := by
      intro hz
      rw [hok rest h4 h48 ht h6 hr hz]
      refine Ev.up ?_
      simp only [horologeref14_Parse.j3, Bool.false_eq_true, if_false]
      refine Ev.pos (by omega) (Ev.pos (by rw [son_size]; omega) ?_)
      rw [Int.toNat_natCast, son_first, hrt]
      obtain ⟨b, b1, b2⟩ := rbig_is (strOfNums (figrun t)) (by rw [son_size]; omega) (fun i hi => fig_bt hf i (by rw [son_size] at hi; exact hi))
      rw [son_size] at b2
      refine Ev.bind b1 ?_
      have fin : ∀ (c : Bool × List Int) (x : Int), Is c x 1000 → x = wkV m (figrun t) → Ev (fun n => horologeref14_Parse.j4 n (strOfNums t) ((figrun t).length : Int) c.1 c.2) ((momV m (figrun t) rest).1, en (momV m (figrun t) rest).2) := by
        intro c x hc hx
        subst hx
        refine Ev.up ?_
        simp only [horologeref14_Parse.j4]
        refine Ev.bind (Small_is hc (by decide)) ?_
        unfold momV
        by_cases hi : I64 (wkV m (figrun t))
        · rw [smallV_in hi, if_pos hi, show wrap64 (((figrun t).length : Int) + 1) = (((figrun t).length + 1 : Nat) : Int) from wr (by omega)]
          have hrest : t.drop ((figrun t).length + 1) = rest := by
            rw [← List.drop_drop]
            conv => lhs; arg 2; rw [ht]
            rw [figrun_app hf]
            rw [List.drop_left]; rfl
          refine Ev.pos rfl (Ev.pos (by omega) (Ev.pos (by
            have := congrArg List.length hrest
            rw [List.length_drop] at this
            rw [son_size]; omega) ?_))
          rw [Int.toNat_natCast, son_cut, hrest]
          have hw : wholeV (strOfNums rest) 6 6 = (numV rest, none) := by
            have := numV_lt hr
            have e : (10 : Int) ^ 6 = 1000000 := by decide
            rw [h6, e] at this
            unfold wholeV
            rw [runV_figs_all hr (6 : Int).toNat (by show rest.length ≤ 6; omega), if_neg (by omega), if_neg (by omega), if_neg (by unfold numV at this; omega), if_neg (by rw [son_size]; omega)]
            rfl
          have h := rwhole_is (strOfNums rest) 6 6 (by rw [son_size]; omega)
          rw [hw] at h
          have n0 := numV_nonneg hr
          have n1 := numV_lt hr
          have e : (10 : Int) ^ 6 = 1000000 := by decide
          rw [h6, e] at n1
          exact Ev.bind h (Ev.bind (rtai_is _ _ hi (by unfold I64; omega)) (Ev.now _))
        · rw [smallV_out hi, if_neg hi]
          exact Ev.neg (by decide) (Ev.now _)
      refine Ev.ite (fun hm => ?_) (fun hm => ?_)
      · obtain ⟨c, c1, c2⟩ := Minus_is b2
        exact Ev.bindc c1 (fin c _ c2 (by unfold wkV; rw [if_pos hm]; rfl))
      · exact fin b _ b2 (by unfold wkV; rw [if_neg hm]; rfl)
    refine Ev.ite (fun hm => Ev.pos (by omega) (Ev.pos (by rw [son_size]; omega) ?_)) (fun hm => j3g (fun q => hm q.1))
    rw [Int.toNat_natCast, son_first, hrt]
    have e4 : ([48, 48, 48, 48] : List UInt8) = (strOfNums [48, 48, 48, 48]).toList := by rw [son_toList]; rfl
    by_cases hz : figrun t = [48, 48, 48, 48]
    · have : ((strOfNums (figrun t)).toList == ([48, 48, 48, 48] : List UInt8)) = true := by rw [hz, ← e4]; exact beq_self_eq_true _
      rw [this]
      rw [hbad (fun q => q.2.2.2 ⟨hm, hz⟩)]
      exact j3b
    · have : ((strOfNums (figrun t)).toList == ([48, 48, 48, 48] : List UInt8)) = false := by
        rw [beq_eq_false_iff_ne]
        intro q
        rw [e4] at q
        exact hz (son_inj (fig_byt hf) (by unfold Byt; decide) q)
      rw [this]
      exact j3g (fun q => hz q.2)
  refine Ev.ite (fun h => bad (fun q => by omega)) (fun h4 => ?_)
  have tail : ¬ ((figrun t).length > 4 ∧ (figrun t).headD 0 = 48) → Ev (fun k => if ((strOfNums t).size : Int) = (wrap64 (((figrun t).length : Int) + 7)) then (if 0 ≤ ((figrun t).length : Int) then (if ((figrun t).length : Int) < ((strOfNums t).size : Int) then (if (bt (strOfNums t) ((figrun t).length : Int)) = 58 then (if 0 ≤ (wrap64 (((figrun t).length : Int) + 1)) then (if (wrap64 (((figrun t).length : Int) + 1)) ≤ ((strOfNums t).size : Int) then ((horologeref02_Many.f k ((strOfNums t).extract ((wrap64 (((figrun t).length : Int) + 1)) : Int).toNat (strOfNums t).size)).bind fun t454 => (horologeref14_Parse.j2 k (strOfNums t) m ((figrun t).length : Int) (t454 != 6))) else (none)) else (none)) else (horologeref14_Parse.j2 k (strOfNums t) m ((figrun t).length : Int) true)) else (none)) else (none)) else (horologeref14_Parse.j2 k (strOfNums t) m ((figrun t).length : Int) true)) (v.1, en v.2) := by
    intro h48
    rw [show wrap64 (((figrun t).length : Int) + 7) = ((figrun t).length : Int) + 7 from wr (by omega), show wrap64 (((figrun t).length : Int) + 1) = (((figrun t).length + 1 : Nat) : Int) from wr (by omega), son_size, Int.toNat_natCast, son_extract, List.take_of_length_le (l := t.drop ((figrun t).length + 1)) (by rw [List.length_drop]; omega)]
    refine Ev.ite (fun h7 => Ev.pos (by omega) (Ev.pos (by omega) ?_)) (fun h7 => bad (fun q => ?_))
    · rw [bt_at_son hb (i := (figrun t).length) (by omega)]
      have hsplit : t = figrun t ++ t[(figrun t).length]'(by omega) :: t.drop ((figrun t).length + 1) := by
        conv => lhs; rw [← List.take_append_drop (figrun t).length t, hrt, List.drop_eq_getElem_cons (by omega)]
      have hdl : (t.drop ((figrun t).length + 1)).length = 6 := by rw [List.length_drop]; omega
      refine Ev.ite (fun h58 => Ev.pos (by omega) (Ev.pos (by omega) (Ev.bind (many_son _ (hb.drop _) (by rw [hdl]; omega)) ?_))) (fun h58 => bad (fun q => ?_))
      · rw [h58] at hsplit
        have hfl := figrun_len (t.drop ((figrun t).length + 1))
        have hft := figrun_take (t.drop ((figrun t).length + 1))
        by_cases h6 : (figrun (t.drop ((figrun t).length + 1))).length = 6
        · rw [h6, show ((((6 : Nat) : Int)) != 6) = false from rfl]
          refine good _ hsplit hdl ?_ (by omega) h48
          rw [h6, List.take_of_length_le (by omega)] at hft
          rw [hft]
          exact figrun_figs _
        · rw [show ((((figrun (t.drop ((figrun t).length + 1))).length : Int)) != 6) = true by rw [bne_iff_ne]; omega]
          refine bad (fun q => ?_)
          obtain ⟨_, _, ⟨rest, e1, e2, e3⟩, _⟩ := q
          have : t.drop ((figrun t).length + 1) = rest := by
            have := hsplit.symm.trans e1
            have := List.append_cancel_left this
            exact (List.cons.inj this).2
          rw [this, figrun_self e3] at h6
          exact h6 e2
      · obtain ⟨_, _, ⟨rest, e1, e2, e3⟩, _⟩ := q
        have := hsplit.symm.trans e1
        have := List.append_cancel_left this
        exact h58 (List.cons.inj this).1
    · obtain ⟨_, _, ⟨rest, e1, e2, e3⟩, _⟩ := q
      have := congrArg List.length e1
      rw [List.length_append, List.length_cons] at this
      omega
  refine Ev.ite (fun h => Ev.pos (by rw [son_size]; omega) ?_) (fun h => tail (fun q => by omega))
  have h0 : bt (strOfNums t) 0 = (figrun t).headD 0 := by
    rw [show bt (strOfNums t) 0 = t[0]'(by omega) from bt_at_son hb (i := 0) (by omega)]
    have e : t[0]'(by omega) = (figrun t)[0]'(by omega) := ((List.takeWhile_prefix (l := t) _).getElem (by unfold figrun at h; omega)).symm
    rw [e]
    exact head_get (by omega)
  rw [h0]
  exact Ev.ite (fun h48 => bad (fun q => q.2.1 ⟨by omega, h48⟩)) (fun h48 => tail (fun q => h48 q.2))
theorem rparse_is (l : List Int) (hb : Byt l) (hl : l.length ≤ 100) : Ev (fun k => horologeref14_Parse.f k (strOfNums l)) ((gparseV l).1, en (gparseV l).2) := by
  have key : Ev (fun n => horologeref14_Parse.j1 n (strOfNums (ttV l)) (comesV l 45)) ((gparseV l).1, en (gparseV l).2) := by
    refine rj1_is (ttV l) (comesV l 45) (hb.drop _) (by unfold ttV; rw [List.length_drop]; omega) (gparseV l) ?_ ?_
    · intro rest h1 h2 h3 h4 h5 h6
      exact gparse_ok hb h1 h2 h3 h4 h5 h6
    · intro h
      exact gparse_bad hb h
  have j0 : Ev (fun n => horologeref14_Parse.j0 n (strOfNums l) (comesV l 45)) ((gparseV l).1, en (gparseV l).2) := by
    refine Ev.up ?_
    simp only [horologeref14_Parse.j0]
    by_cases hc : comesV l 45 = true
    · rw [hc] at key ⊢
      have hs : signN l = 1 := by unfold signN; rw [if_pos hc]
      have := comes_len hc
      refine Ev.pos rfl (Ev.pos (by rw [son_size]; omega) ?_)
      rw [son_cut]
      unfold ttV at key
      rw [hs] at key
      exact key
    · have hs : signN l = 0 := by unfold signN; rw [if_neg hc]
      unfold ttV at key
      rw [hs, List.drop_zero] at key
      exact Ev.neg hc key
  unfold horologeref14_Parse.f
  refine Ev.ite (fun h => Ev.pos (by rw [son_size] at h ⊢; exact h) ?_) (fun h => ?_)
  · rw [son_size] at h
    have : (bt (strOfNums l) 0 == 45) = comesV l 45 := by
      rw [show bt (strOfNums l) 0 = l[0]'(by omega) from bt_at_son hb (i := 0) (by omega)]
      unfold comesV
      cases l with
      | nil => simp at h
      | cons x l => rfl
    rw [this]; exact j0
  · rw [son_size] at h
    have : comesV l 45 = false := by
      cases l with
      | nil => rfl
      | cons x l => simp at h
    rw [this] at j0; exact j0
theorem alive_is : Ev (fun k => horologelaw14_alive.f k) true := Ev.of (fun k => horologelaw14_alive.mono k) (k := 10) (by kernel_rfl)
theorem num_en (e : Option Int) (h : e ≠ some 0) : horologenum_Num.f e = some (en e) := by
  rw [num_is]
  cases e with
  | none => rfl
  | some c =>
    have : c ≠ 0 := fun q => h (by rw [q])
    simp [en, this]
theorem taiV_err (w s : Int) : (taiV w s).2 ≠ some 0 := by
  unfold taiV
  repeat' split
  all_goals simp
theorem gparseV_err (l : List Int) : (gparseV l).2 ≠ some 0 := by
  unfold gparseV
  simp only []
  repeat' split
  all_goals first | exact taiV_err _ _ | simp | skip
  rename_i q e
  have := signedV_err (strOfNums (l.takeWhile (fun x => x != 58))) 20
  rw [e] at this
  exact fun z => this (by rw [z])
end Go.Proofs.Ytjameiglfecagaa.MGpsTexts
namespace Go.Proofs.Ytjameiglfecagaa.Pure
open Go.RowKit Go.Proofs.Ytjameiglfecagaa.MGpsTexts Go.Proofs.YtjameiglfecagaaW.PrintWords Go.Proofs.YtjameiglfecagaaW.PrintLast Go.Proofs.Ytjameiglfecagaa.Base
set_option linter.unusedVariables false
set_option linter.unusedSimpArgs false
theorem GpsTexts : horologelaw14_GpsTexts.Pure := by
  intro s hs
  refine Ev.ok (g := fun k => horologelaw14_GpsTexts.f k s) ?_
  unfold horologelaw14_GpsTexts.f
  refine Ev.bind alive_is (Ev.pos rfl (Ev.ite (fun _ => Ev.now _) (fun hlen => ?_)))
  have hb := byt_of s
  have hl : (bytesOf s).length ≤ 100 := by rw [bytesOf_length]; omega
  have h1 := gparse_is (bytesOf s) hb (by omega)
  have h2 := rparse_is (bytesOf s) hb hl
  rw [son_of] at h1 h2
  exact Ev.bind h1 (Ev.bind h2 (Ev.pos rfl (Ev.bindc (num_en _ (gparseV_err _)) (Ev.cast (Ev.now _) (beq_self_eq_true _)))))
end Go.Proofs.Ytjameiglfecagaa.Pure
