/- RuleTexts: the text of any rule, and which texts are rules, are the document's. For every input of Go's kinds; no further condition (of texts longer than 100 the statement says nothing). -/
import Derived.Test.YtnjeemghkpgcfaaMRuleTextsx
import Derived.Test.YtnjeemghkpgcfaaCalBase
import Derived.Test.YtnjeemghkpgcfaaScanBase
namespace Go.Proofs.Ytnjeemghkpgcfaa.MRuleTexts
open Go.RowKit Go.Proofs.YtnjeemghkpgcfaaW.PrintWords Go.Proofs.YtnjeemghkpgcfaaW.PrintLast Go.Proofs.YtnjeemghkpgcfaaW.PrintMore Go.Proofs.Ytnjeemghkpgcfaa.Base
set_option linter.unusedVariables false
set_option linter.unusedSimpArgs false

theorem num_is (e : Option Int) : horologenum_Num.f e = some (match e with | none => 0 | some c => if c = 0 then -1 else c) := by
  unfold horologenum_Num.f
  cases e <;> simp
  split <;> rfl
theorem rev_l0 (l : List Int) (hn : l.length ≤ 1000000) (m : Nat) : ∀ (x : List Int) (i : Nat), x.length = l.length → 2 * i + m ≥ l.length → 2 * i ≤ l.length + 1 →
    (∀ t : Nat, t < l.length → rd x t = if t < i ∨ l.length - 1 - i < t then rd l ((l.length - 1 - t : Nat) : Int) else rd l t) →
      Ev (fun k => slices_Reverse_byte_byte.l0 k x i ((l.length : Int) - 1 - i)) l.reverse := by
  induction m with
  | zero =>
    intro x i hl hm h2 h
    refine Ev.up ?_
    simp only [slices_Reverse_byte_byte.l0]
    refine Ev.neg (by omega) ?_
    rw [← rev_of hl (fun t ht => ?_)]
    · exact Ev.now _
    · rw [h t ht]
      by_cases q : t < i ∨ l.length - 1 - i < t
      · rw [if_pos q]
      · rw [if_neg q, show l.length - 1 - t = t by omega]
  | succ m ih =>
    intro x i hl hm h2 h
    by_cases hgo : 2 * i + 1 < l.length
    · have ej : (l.length : Int) - 1 - i = ((l.length - 1 - i : Nat) : Int) := by omega
      refine Ev.up ?_
      simp only [slices_Reverse_byte_byte.l0, ej]
      refine Ev.pos (by omega) (Ev.pos (by omega) (Ev.pos (by omega) (Ev.pos (by omega) (Ev.pos (by omega) ?_))))
      rw [wr (n := (i : Int) + 1) (by omega), wr (n := ((l.length - 1 - i : Nat) : Int) - 1) (by omega)]
      have := ih ((x.set (i : Int).toNat (rd x ((l.length - 1 - i : Nat) : Int))).set ((l.length - 1 - i : Nat) : Int).toNat (rd x i)) (i + 1) (by simp [hl]) (by omega) (by omega) (by
        intro t ht
        simp only [Int.toNat_natCast]
        rw [rd_set _ _ _ (by simp; omega), rd_set _ _ _ (by omega)]
        by_cases t1 : t = l.length - 1 - i
        · rw [if_pos t1, if_pos (by omega), h i (by omega), if_neg (by omega), show l.length - 1 - t = i by omega]
        · rw [if_neg t1]
          by_cases t2 : t = i
          · rw [if_pos t2, if_pos (by omega), h _ (by omega), if_neg (by omega), t2]
          · rw [if_neg t2, h t ht]
            by_cases t3 : t < i ∨ l.length - 1 - i < t
            · rw [if_pos t3, if_pos (by omega)]
            · rw [if_neg t3, if_neg (by omega)])
      rw [show (l.length : Int) - 1 - ((i + 1 : Nat) : Int) = ((l.length - 1 - i : Nat) : Int) - 1 by omega] at this
      exact this
    · exact (by
        refine Ev.up ?_
        simp only [slices_Reverse_byte_byte.l0]
        refine Ev.neg (by omega) ?_
        rw [← rev_of hl (fun t ht => ?_)]
        · exact Ev.now _
        · rw [h t ht]
          by_cases q : t < i ∨ l.length - 1 - i < t
          · rw [if_pos q]
          · rw [if_neg q, show l.length - 1 - t = t by omega])
theorem rev_is (l : List Int) (hn : l.length ≤ 1000000) : Ev (fun k => slices_Reverse_byte_byte.f k l) l.reverse := by
  unfold slices_Reverse_byte_byte.f
  rw [wr (by omega)]
  have := rev_l0 l hn l.length l 0 rfl (by omega) (by omega) (fun t ht => by rw [if_neg (by omega)])
  simpa using this
theorem raw_pad (w : Int) (hw : 0 ≤ w ∧ w ≤ 1000) (m : Nat) : ∀ out : List Int, out.length ≤ 1000 → (max w.toNat 1 - out.length) ≤ m → Ev (fun k => figures_raw.l0 k 0 w out) (strOfNums ((out ++ List.replicate (max w.toNat 1 - out.length) 48).reverse)) := by
  have hx : mx w 1 = ((max w.toNat 1 : Nat) : Int) := by unfold mx; split <;> omega
  induction m with
  | zero =>
    intro out ho hm
    refine Ev.up ?_
    simp only [figures_raw.l0, hx]
    refine Ev.neg (by omega) (Ev.neg (by omega) (Ev.bind (rev_is out (by omega)) ?_))
    rw [show max w.toNat 1 - out.length = 0 by omega, List.replicate_zero, List.append_nil]
    exact Ev.now _
  | succ m ih =>
    intro out ho hm
    by_cases h : out.length < max w.toNat 1
    · refine Ev.up ?_
      simp only [figures_raw.l0, hx]
      have w1 : IntKind.u64.wrap (Int.tdiv 0 10) = 0 := by decide
      have w2 : (48 + Int.tmod 0 10) % 256 = 48 := by decide
      rw [w1, w2]
      refine Ev.neg (by omega) (Ev.pos (by omega) (Ev.pos (by omega) ?_))
      have := ih (out ++ [48]) (by simp; omega) (by simp; omega)
      rw [snoc_rep, show max w.toNat 1 - (out ++ [(48 : Int)]).length + 1 = max w.toNat 1 - out.length by simp; omega] at this
      exact this
    · exact ih out ho (by omega)
theorem raw_l0 (w : Int) (hw : 0 ≤ w ∧ w ≤ 100) (n : Nat) : ∀ out : List Int, n < 18446744073709551616 → out.length + (digs n).length ≤ 200 →
    Ev (fun k => figures_raw.l0 k (n : Int) w out) (strOfNums ((out ++ digs n ++ List.replicate (max w.toNat 1 - (out ++ digs n).length) 48).reverse)) := by
  induction n using Nat.strongRecOn with
  | ind n ih =>
    intro out hn ho
    by_cases h : n = 0
    · subst h
      rw [digs_zero, List.append_nil]
      exact raw_pad w (by omega) _ out (by omega) (Nat.le_refl _)
    · have e := digs_pos (show 0 < n by omega)
      refine Ev.up ?_
      simp only [figures_raw.l0]
      refine Ev.pos (by omega) (Ev.pos (by omega) ?_)
      have w1 : IntKind.u64.wrap (Int.tdiv (n : Int) 10) = ((n / 10 : Nat) : Int) := by rw [tdiv_is, if_neg (by omega), wrap_u64]; omega
      have w2 : (48 + Int.tmod (n : Int) 10) % 256 = 48 + (n : Int) % 10 := by rw [tmod_is, if_neg (by omega)]; omega
      rw [w1, w2]
      have := ih (n / 10) (by omega) (out ++ [48 + (n : Int) % 10]) (by omega) (by rw [e] at ho; simp at ho ⊢; omega)
      rw [show out ++ [48 + (n : Int) % 10] ++ digs (n / 10) = out ++ digs n by rw [e]; simp] at this
      exact this
theorem raw_is (n : Nat) (w : Int) (hn : n < 18446744073709551616) (hw : 0 ≤ w ∧ w ≤ 100) : Ev (fun k => figures_raw.f k (n : Int) w) (strOfNums (rawV n w.toNat)) := by
  have l := digs_len n 20 (by omega)
  have := raw_l0 w hw n [] hn (by simp; omega)
  rw [List.nil_append, List.reverse_append, List.reverse_replicate] at this
  exact this
/-- The text of a number with its sign. -/
def putV (n : Int) (w : Nat) : List Int := if n < 0 then 45 :: rawV (-n).toNat w else rawV n.toNat w
theorem put_is (n w : Int) (hn : I64 n) (hw : 0 ≤ w ∧ w ≤ 20) : Ev (fun k => figures_Put.f k n w) (strOfNums (putV n w.toNat), none) := by
  unfold I64 at hn
  unfold figures_Put.f
  refine Ev.neg (by omega) ?_
  rw [decide_eq_false (by omega)]
  refine Ev.up ?_
  simp only [figures_Put.j0, Bool.false_eq_true, if_false]
  unfold putV
  refine Ev.ite (fun h => ?_) (fun h => ?_)
  · rw [if_pos h, show IntKind.u64.wrap (-IntKind.u64.wrap n) = (((-n).toNat : Nat) : Int) by rw [wrap_u64, wrap_u64]; omega]
    refine Ev.bind (raw_is (-n).toNat w (by omega) (by omega)) (Ev.pos ?_ ?_)
    · rw [son_size, rawV_len]
      have := digs_len (-n).toNat 20 (by omega)
      omega
    · rw [show (⟨#[45]⟩ : ByteArray) = strOfNums [45] from rfl, son_append]
      exact Ev.now _
  · rw [if_neg h, show IntKind.u64.wrap n = ((n.toNat : Nat) : Int) by rw [wrap_u64]; omega]
    exact Ev.bind (raw_is n.toNat w (by omega) (by omega)) (Ev.now _)
theorem rraw_l1 (w : Int) (hw : 0 ≤ w ∧ w ≤ 1000) (m : Nat) : ∀ s : List Int, s.length ≤ 1000 → (max w.toNat 1 - s.length) ≤ m → Ev (fun k => horologeref02_Raw.l1 k w (strOfNums s)) (strOfNums (List.replicate (max w.toNat 1 - s.length) 48 ++ s)) := by
  induction m with
  | zero =>
    intro s hs hm
    refine Ev.up ?_
    simp only [horologeref02_Raw.l1, son_size]
    rw [show max w.toNat 1 - s.length = 0 by omega, List.replicate_zero, List.nil_append]
    exact Ev.neg (by omega) (Ev.neg (by omega) (Ev.now _))
  | succ m ih =>
    intro s hs hm
    by_cases h : s.length < max w.toNat 1
    · refine Ev.up ?_
      simp only [horologeref02_Raw.l1, son_size, show (⟨#[48]⟩ : ByteArray) = strOfNums [48] from rfl, son_append]
      have := ih ([48] ++ s) (by simp; omega) (by simp; omega)
      have e : List.replicate (max w.toNat 1 - ([48] ++ s).length) (48 : Int) ++ ([48] ++ s) = List.replicate (max w.toNat 1 - s.length) 48 ++ s := by
        rw [← List.append_assoc]
        congr 1
        rw [show max w.toNat 1 - s.length = (max w.toNat 1 - ([48] ++ s).length) + 1 by simp; omega, List.replicate_succ']
      rw [e] at this
      exact Ev.ite (fun _ => Ev.pos (by omega) this) (fun q => Ev.pos (by omega) (Ev.pos (by omega) this))
    · exact ih s hs (by omega)
theorem rraw_l0 (w : Int) (hw : 0 ≤ w ∧ w ≤ 100) (n : Nat) : ∀ s : List Int, n < 9223372036854775808 → s.length + (digs n).length ≤ 200 →
    Ev (fun k => horologeref02_Raw.l0 k (n : Int) w (strOfNums s)) (strOfNums (List.replicate (max w.toNat 1 - ((digs n).reverse ++ s).length) 48 ++ ((digs n).reverse ++ s))) := by
  induction n using Nat.strongRecOn with
  | ind n ih =>
    intro s hn hs
    by_cases h : n = 0
    · subst h
      rw [digs_zero]
      refine Ev.up ?_
      simp only [horologeref02_Raw.l0]
      refine Ev.neg (by omega) ?_
      exact rraw_l1 w (by omega) _ s (by omega) (Nat.le_refl _)
    · have e := digs_pos (show 0 < n by omega)
      have w1 : wrap64 (Int.tdiv (n : Int) 10) = ((n / 10 : Nat) : Int) := by rw [tdiv_is, if_neg (by omega), wr (by omega)]; omega
      have w2 : (wrap64 (48 + Int.tmod (n : Int) 10)) % 256 = 48 + (n : Int) % 10 := by rw [tmod_is, if_neg (by omega), wr (by omega)]; omega
      refine Ev.up ?_
      simp only [horologeref02_Raw.l0, Option.bind_some, w1, w2, son_size, son_append]
      refine Ev.pos (by omega) (Ev.pos (by simp; omega) ?_)
      have := ih (n / 10) (by omega) ([48 + (n : Int) % 10] ++ s) (by omega) (by rw [e] at hs; simp at hs ⊢; omega)
      rw [show (digs (n / 10)).reverse ++ ([48 + (n : Int) % 10] ++ s) = (digs n).reverse ++ s by rw [e]; simp] at this
      exact this
theorem rraw_is (n : Nat) (w : Int) (hn : n < 9223372036854775808) (hw : 0 ≤ w ∧ w ≤ 100) : Ev (fun k => horologeref02_Raw.f k (n : Int) w) (strOfNums (rawV n w.toNat)) := by
  have l := digs_len n 20 (by omega)
  have := rraw_l0 w hw n [] hn (by simp; omega)
  rw [List.append_nil, List.length_reverse] at this
  exact this
/-- What is left of a text from a place on: nothing behind an error. -/
def leftV (l : List Int) (i : Nat) (e : Option Int) : List Int := if e.isNone = true then l.drop i else []
theorem leftV_none (l : List Int) (i : Nat) : leftV l i none = l.drop i := rfl
theorem leftV_some (l : List Int) (i : Nat) (c : Int) : leftV l i (some c) = [] := rfl
theorem leftV_byt {l : List Int} (h : Byt l) (i : Nat) (e : Option Int) : Byt (leftV l i e) := by
  unfold leftV; split
  · exact h.drop i
  · intro x hx; cases hx
theorem leftV_len (l : List Int) (i : Nat) (e : Option Int) : (leftV l i e).length ≤ l.length := by
  unfold leftV; split
  · simp
  · simp
theorem srest_is (l : List Int) (i : Nat) (e : Option Int) (hi : i ≤ l.length) : scan_Scanner_string_rest.f (strOfNums l) i e = some (strOfNums (leftV l i e), strOfNums l, (i : Int), e) := by
  unfold scan_Scanner_string_rest.f
  cases e with
  | none =>
    rw [if_pos (show (none : Option Int).isNone = true from rfl), if_pos (by omega), if_pos (by rw [son_size]; omega), Int.toNat_natCast, son_cut]; rfl
  | some c => rfl
theorem sclone_is (l : List Int) (hl : l.length ≤ 140737488351232) : strings_Clone.f (strOfNums l) = some (strOfNums l) := by
  unfold strings_Clone.f stringslite_Clone.f
  rw [if_pos (by rw [son_size]; omega)]; rfl
theorem stake_is (l : List Int) (i : Nat) (e : Option Int) (n : Nat) (hi : i ≤ l.length) (hl : l.length ≤ 140737488351232) (hn : n ≤ (leftV l i e).length) :
    scan_Scanner_string_take.f (strOfNums l) i e n = some (strOfNums ((leftV l i e).take n), strOfNums l, ((i + n : Nat) : Int), e) := by
  have hb := leftV_len l i e
  unfold scan_Scanner_string_take.f
  rw [srest_is l i e hi]
  simp only [Option.bind_some]
  rw [if_pos (by omega), if_pos (by rw [son_size]; omega), Int.toNat_natCast, son_first, sclone_is _ (by rw [List.length_take]; omega)]
  by_cases h : n = 0
  · subst h; rfl
  · rw [if_pos (by omega)]
    show some (_, _, wrap64 ((i : Int) + (n : Int)), _) = _
    have hn2 : i + n ≤ l.length ∨ n = 0 := by
      unfold leftV at hn; split at hn
      · rw [List.length_drop] at hn; omega
      · simp at hn; omega
    rw [wr (by omega)]
    congr 1
theorem speek_is (l : List Int) (hb : Byt l) (i : Nat) (e : Option Int) (hi : i ≤ l.length) : scan_Scanner_string_Peek.f (strOfNums l) i e = some ((leftV l i e).headD 0, decide (leftV l i e ≠ []), strOfNums l, (i : Int), e) := by
  unfold scan_Scanner_string_Peek.f
  rw [srest_is l i e hi]
  simp only [Option.bind_some]
  have hb2 := leftV_byt hb i e
  generalize leftV l i e = r at *
  cases r with
  | nil => rw [if_pos (by rw [son_toList]; rfl)]; rfl
  | cons x r =>
    rw [if_neg (by rw [son_toList]; simp), if_pos (by rw [son_size]; simp)]
    have := bt_at_son hb2 (i := 0) (by simp)
    rw [show bt (strOfNums (x :: r)) 0 = x from this]
    simp
/-- Does a byte come? -/
def comesV (r : List Int) (c : Int) : Bool := r.head? == some c
theorem sTake_is (l : List Int) (hb : Byt l) (i : Nat) (e : Option Int) (c : Int) (hi : i ≤ l.length) (hl : l.length ≤ 140737488351232) :
    scan_Scanner_string_Take.f (strOfNums l) i e c = some (comesV (leftV l i e) c, strOfNums l, (if comesV (leftV l i e) c = true then ((i + 1 : Nat) : Int) else (i : Int)), e) := by
  unfold scan_Scanner_string_Take.f
  rw [speek_is l hb i e hi]
  simp only [Option.bind_some]
  have ht := fun h => stake_is l i e 1 hi hl h
  generalize leftV l i e = r at *
  cases r with
  | nil => rfl
  | cons x r =>
    rw [if_pos (by simp)]
    unfold comesV
    by_cases h : x = c
    · subst h
      rw [if_pos (show (x :: r).headD 0 = x from rfl)]
      rw [show scan_Scanner_string_take.f (strOfNums l) (↑i) e 1 = _ from ht (by simp)]
      simp
    · rw [if_neg (show ¬ (x :: r).headD 0 = c from h)]
      have : ((x :: r).head? == some c) = false := by simpa using h
      rw [this]; rfl
theorem tw_take {p : Int → Bool} (r : List Int) : r.take (r.takeWhile p).length = r.takeWhile p := (List.prefix_iff_eq_take.mp (List.takeWhile_prefix p)).symm
theorem tw_len {p : Int → Bool} (r : List Int) : (r.takeWhile p).length ≤ r.length := (List.takeWhile_prefix p).length_le
theorem sErr_is (s : ByteArray) (i : Int) (e : Option Int) : scan_Scanner_string_Err.f s i e = some (e, s, i, e) := rfl
theorem sLeft_is (l : List Int) (i : Nat) (e : Option Int) (hi : i ≤ l.length) : scan_Scanner_string_Left.f (strOfNums l) i e = some (((leftV l i e).length : Int), strOfNums l, (i : Int), e) := by
  unfold scan_Scanner_string_Left.f
  rw [srest_is l i e hi]
  simp only [Option.bind_some, son_size]
/-- The error at the end. -/
def endV (l : List Int) (i : Nat) (e : Option Int) : Option Int := match e with | some c => some c | none => if i < l.length then some 2 else none
theorem sEnd_is (l : List Int) (i : Nat) (e : Option Int) (hi : i ≤ l.length) : scan_Scanner_string_End.f (strOfNums l) i e = some (endV l i e, strOfNums l, (i : Int), e) := by
  unfold scan_Scanner_string_End.f
  rw [sErr_is]
  cases e with
  | some c => rfl
  | none =>
    simp only [Option.bind_some]
    rw [if_pos (show (none : Option Int).isNone = true from rfl), sLeft_is l i none hi]
    simp only [Option.bind_some, leftV_none, List.length_drop]
    unfold endV
    by_cases h : i < l.length
    · rw [if_pos (by omega)]; simp only [if_pos h]
    · rw [if_neg (by omega)]; simp only [if_neg h]
theorem is_is (c : Int) : figures_Is.f c = some (decide (figb c)) := by
  unfold figures_Is.f
  split
  · congr 1; exact decide_eq_decide.mpr ⟨fun q => ⟨by omega, q⟩, fun q => q.2⟩
  · congr 1; exact (decide_eq_false (fun q => by unfold figb at q; omega)).symm
theorem mn_nat (a : Nat) (m : Int) (hm : 0 ≤ m) : mn (a : Int) m = ((min m.toNat a : Nat) : Int) := by unfold mn; split <;> omega
theorem run_l0 (s : ByteArray) (m : Int) (hm : 0 ≤ m) (hs : s.size ≤ 140737488351232) (f : Nat) : ∀ i : Nat, i + f = min m.toNat s.size → Ev (fun k => figures_run.l0 k s m i) ((runG s i f : Nat) : Int) := by
  induction f with
  | zero =>
    intro i hi
    refine Ev.up ?_
    simp only [figures_run.l0, mn_nat _ _ hm, runG]
    exact Ev.neg (by omega) (Ev.now _)
  | succ f ih =>
    intro i hi
    refine Ev.up ?_
    simp only [figures_run.l0, mn_nat _ _ hm, is_is, Option.bind_some]
    refine Ev.pos (by omega) (Ev.pos (by omega) (Ev.pos (by omega) (Ev.ite (fun h => ?_) (fun h => ?_))))
    · rw [wr (n := (i : Int) + 1) (by omega)]
      unfold runG
      rw [if_pos (of_decide_eq_true h)]
      exact ih (i + 1) (by omega)
    · unfold runG
      rw [if_neg (fun q => h (decide_eq_true q))]
      exact Ev.now _
theorem run_is (s : ByteArray) (m : Int) (hm : 0 ≤ m) (hs : s.size ≤ 140737488351232) : Ev (fun k => figures_run.f k s m) ((runV s m.toNat : Nat) : Int) := by
  unfold figures_run.f
  exact run_l0 s m hm hs _ 0 (by omega)
theorem value_l0 (s : ByteArray) (L : Int) (hL : 100 ≤ L ∧ L ≤ 18446744073709551615) (hs : s.size ≤ 140737488351232) (hf : ∀ i : Nat, i < s.size → figb (bt s i)) (m : Nat) : ∀ i : Nat, i + m = s.size → nv s i ≤ L →
    Ev (fun k => figures_value.l0 k s L (nv s i) (s.size : Int) i) (if nv s s.size > L then (0, some 5) else (nv s s.size, none)) := by
  induction m with
  | zero =>
    intro i hi hv
    rw [show s.size = i by omega]
    refine Ev.up ?_
    simp only [figures_value.l0]
    rw [if_neg (by omega)]
    exact Ev.neg (by omega) (Ev.now _)
  | succ m ih =>
    intro i hi hv
    have hd := hf i (by omega)
    unfold figb at hd
    have h0 := nv_nonneg s i (fun j hj => hf j (by omega))
    have w1 : (bt s i - 48) % 256 = bt s i - 48 := by omega
    have w2 : IntKind.u64.wrap (Int.tdiv (IntKind.u64.wrap (L - (bt s i - 48))) 10) = (L - (bt s i - 48)) / 10 := by rw [wrap_u64 (L - _), tdiv_is, if_neg (by omega), wrap_u64]; omega
    refine Ev.up ?_
    simp only [figures_value.l0, w1, w2]
    refine Ev.pos (by omega) (Ev.pos (by omega) (Ev.pos (by omega) (Ev.ite (fun h => ?_) (fun h => ?_))))
    · have hm : nv s (i + 1) ≤ nv s s.size := nv_mono s (fun j hj => hf j hj) (by omega)
      simp only [nv] at hm
      rw [if_pos (by omega)]
      exact Ev.now _
    · have w3 : IntKind.u64.wrap (IntKind.u64.wrap (nv s i * 10) + (bt s i - 48)) = nv s (i + 1) := by simp only [nv]; rw [wrap_u64, wrap_u64]; omega
      rw [w3, wr (n := (i : Int) + 1) (by omega)]
      exact ih (i + 1) (by omega) (by simp only [nv]; omega)
theorem value_is (s : ByteArray) (L : Int) (hL : 100 ≤ L ∧ L ≤ 18446744073709551615) (hs : s.size ≤ 140737488351232) (hf : ∀ i : Nat, i < s.size → figb (bt s i)) :
    Ev (fun k => figures_value.f k s L) (if nv s s.size > L then (0, some 5) else (nv s s.size, none)) := by
  unfold figures_value.f
  have := value_l0 s L hL hs hf s.size 0 (by omega) (by simp only [nv]; omega)
  simpa [nv] using this
theorem runV_figs (s : ByteArray) (m : Nat) : ∀ i : Nat, i < runV s m → figb (bt s i) := fun i hi => runG_figs s _ 0 i (by omega) hi
/-- What the figures that a text begins with come to. -/
def takeV (s : ByteArray) (least most L : Int) : Int × Int × Option Int :=
  if least < 1 ∨ least > most ∨ most > 20 then (0, 0, some 1)
  else if (runV s most.toNat : Int) < least then (0, 0, some 2)
  else if nv s (runV s most.toNat) > L then (0, 0, some 5)
  else (nv s (runV s most.toNat), runV s most.toNat, none)
theorem take_is (s : ByteArray) (least most L : Int) (hL : 100 ≤ L ∧ L ≤ 18446744073709551615) (hs : s.size ≤ 140737488351232) : Ev (fun k => figures_take.f k s least most L) (takeV s least most L) := by
  unfold figures_take.f takeV
  have bad : (least < 1 ∨ least > most ∨ most > 20) → Ev (fun k => figures_take.j0 k s least most L true) (if least < 1 ∨ least > most ∨ most > 20 then (0, 0, some 1) else if (runV s most.toNat : Int) < least then (0, 0, some 2) else if nv s (runV s most.toNat) > L then (0, 0, some 5) else (nv s (runV s most.toNat), ((runV s most.toNat : Nat) : Int), none)) := by
    intro h
    rw [if_pos h]
    refine Ev.up ?_
    simp only [figures_take.j0, if_true]
    exact Ev.now _
  refine Ev.ite (fun h => bad (Or.inl h)) (fun h1 => Ev.ite (fun h => bad (Or.inr (Or.inl h))) (fun h2 => ?_))
  by_cases h3 : most > 20
  · rw [decide_eq_true h3]; exact bad (Or.inr (Or.inr h3))
  · rw [decide_eq_false h3, if_neg (by omega)]
    refine Ev.up ?_
    simp only [figures_take.j0, Bool.false_eq_true, if_false]
    refine Ev.bind (run_is s most (by omega) hs) (Ev.ite (fun h => ?_) (fun h => ?_))
    · rw [if_pos h]; exact Ev.now _
    · rw [if_neg h]
      have rb := runV_bd s most.toNat
      have hx : (s.extract 0 ((runV s most.toNat : Nat) : Int).toNat).size = runV s most.toNat := size_extract s _ rb.2
      have hv := value_is (s.extract 0 ((runV s most.toNat : Nat) : Int).toNat) L hL (by rw [hx]; omega) (by
        rw [hx]
        intro i hi
        rw [Int.toNat_natCast, bt_extract s _ i hi rb.2]
        exact runV_figs s _ i hi)
      rw [hx] at hv
      rw [show nv (s.extract 0 ((runV s most.toNat : Nat) : Int).toNat) (runV s most.toNat) = nv s (runV s most.toNat) from nv_extract s _ rb.2 _ (Nat.le_refl _)] at hv
      refine Ev.pos (by omega) (Ev.pos (by omega) (Ev.bind hv ?_))
      by_cases hg : nv s (runV s most.toNat) > L
      · rw [if_pos hg, if_pos hg]; exact Ev.now _
      · rw [if_neg hg, if_neg hg]; exact Ev.now _
theorem sgoing_is (s : ByteArray) (i : Int) (e : Option Int) : scan_Scanner_string_going.f s i e = some (e.isNone, s, i, e) := by
  unfold scan_Scanner_string_going.f
  cases e <;> rfl
theorem tTake_is (s : ByteArray) (least most : Int) (hs : s.size ≤ 140737488351232) : Ev (fun k => figures_Take.f k s least most) (takeV s least most 9223372036854775807) := by
  unfold figures_Take.f
  refine Ev.bind (take_is s least most 9223372036854775807 (by omega) hs) (Ev.cast (Ev.now _) ?_)
  have hI : I64 (takeV s least most 9223372036854775807).1 := by
    unfold takeV I64
    have := nv_nonneg s (runV s most.toNat) (runV_figs s _)
    repeat' split
    all_goals (simp only; omega)
  rw [wrap64_id hI]
/-- Figures taken: the number, the place behind them, the error. -/
def sfigV (l : List Int) (i : Nat) (e : Option Int) (least most : Int) : Int × Int × Option Int :=
  match e with
  | some c => (0, i, some c)
  | none => match takeV (strOfNums (l.drop i)) least most 9223372036854775807 with
    | (n, m, none) => (n, i + m, none)
    | (_, _, some q) => (0, i, some q)
theorem takeV_le (s : ByteArray) (least most L : Int) : 0 ≤ (takeV s least most L).2.1 ∧ (takeV s least most L).2.1 ≤ s.size := by
  have := runV_bd s most.toNat
  unfold takeV
  repeat' split
  all_goals (simp only; omega)
theorem sFigures_is (l : List Int) (hb : Byt l) (i : Nat) (e : Option Int) (least most : Int) (hi : i ≤ l.length) (hl : l.length ≤ 140737488351232) :
    Ev (fun k => scan_Scanner_string_Figures.f k (strOfNums l) i e least most) ((sfigV l i e least most).1, strOfNums l, (sfigV l i e least most).2.1, (sfigV l i e least most).2.2) := by
  unfold scan_Scanner_string_Figures.f
  refine Ev.bindc (sgoing_is _ _ _) ?_
  cases e with
  | some c => exact Ev.neg (by simp) (Ev.now _)
  | none =>
    refine Ev.pos rfl (Ev.bindc (srest_is l i none hi) ?_)
    simp only [leftV_none]
    refine Ev.bind (tTake_is _ least most (by rw [son_size, List.length_drop]; omega)) ?_
    unfold sfigV
    have hle := takeV_le (strOfNums (l.drop i)) least most 9223372036854775807
    rw [son_size, List.length_drop] at hle
    rcases hq : takeV (strOfNums (l.drop i)) least most 9223372036854775807 with ⟨n, m, q⟩
    rw [hq] at hle
    simp only at hle
    cases q with
    | some q => exact Ev.neg (by simp) (Ev.now _)
    | none =>
      obtain ⟨m', rfl⟩ : ∃ m' : Nat, m = (m' : Int) := ⟨m.toNat, by omega⟩
      refine Ev.pos rfl (Ev.bindc (stake_is l i none m' hi hl (by rw [leftV_none, List.length_drop]; omega)) (Ev.cast (Ev.now _) ?_))
      show (n, strOfNums l, ((i + m' : Nat) : Int), (none : Option Int)) = (n, strOfNums l, (i : Int) + m', none)
      rw [show ((i + m' : Nat) : Int) = (i : Int) + m' by omega]
/-- The figures' bytes. -/
def figset : List Int := [48, 49, 50, 51, 52, 53, 54, 55, 56, 57]
theorem figset_mem (x : Int) : x ∈ figset ↔ 48 ≤ x ∧ x ≤ 57 := by
  unfold figset
  simp only [List.mem_cons, List.mem_nil_iff, or_false]
  omega
def figrun (r : List Int) : List Int := r.takeWhile (fun x => decide (x ∈ figset))
theorem runG_son (t : List Int) (hb : Byt t) (m : Nat) : ∀ i : Nat, i + m = t.length → runG (strOfNums t) i m = i + (figrun (t.drop i)).length := by
  induction m with
  | zero =>
    intro i hi
    rw [List.drop_of_length_le (by omega)]; rfl
  | succ m ih =>
    intro i hi
    have hx := bt_at_son hb (i := i) (by omega)
    unfold runG
    rw [hx, List.drop_eq_getElem_cons (by omega)]
    unfold figrun
    rw [List.takeWhile_cons]
    by_cases h : figb t[i]
    · rw [if_pos h, if_pos (by exact decide_eq_true ((figset_mem _).mpr h)), ih (i + 1) (by omega)]
      unfold figrun
      rw [List.length_cons]; omega
    · rw [if_neg h, if_neg (by simpa using fun q => h ((figset_mem _).mp q))]; rfl
theorem figrun_figs (t : List Int) : ∀ x ∈ figrun t, 48 ≤ x ∧ x ≤ 57 := by
  intro x hx
  have := List.all_eq_true.mp (List.all_takeWhile (p := fun x => decide (x ∈ figset)) (l := t)) x hx
  exact (figset_mem x).mp (of_decide_eq_true this)
theorem figrun_len (t : List Int) : (figrun t).length ≤ t.length := tw_len t
/-- The number of a row of figures. -/
def numV (r : List Int) : Int := nv (strOfNums r) r.length
theorem fig_byt {r : List Int} (h : ∀ x ∈ r, 48 ≤ x ∧ x ≤ 57) : Byt r := fun x hx => by have := h x hx; omega
theorem fig_bt {r : List Int} (h : ∀ x ∈ r, 48 ≤ x ∧ x ≤ 57) (i : Nat) (hi : i < r.length) : figb (bt (strOfNums r) i) := by
  rw [bt_at_son (fig_byt h) hi]
  exact h _ (List.getElem_mem hi)
theorem numV_nonneg {r : List Int} (h : ∀ x ∈ r, 48 ≤ x ∧ x ≤ 57) : 0 ≤ numV r := nv_nonneg _ _ (fun i hi => fig_bt h i hi)
theorem numV_lt {r : List Int} (h : ∀ x ∈ r, 48 ≤ x ∧ x ≤ 57) : numV r < 10 ^ r.length := nv_lt _ _ (fun i hi => fig_bt h i hi)
theorem figrun_self {r : List Int} (h : ∀ x ∈ r, 48 ≤ x ∧ x ≤ 57) : figrun r = r := by
  unfold figrun
  apply tw_all
  intro x hx
  exact decide_eq_true ((figset_mem x).mpr (h x hx))
theorem figrun_pre {r : List Int} (h : ∀ x ∈ r, 48 ≤ x ∧ x ≤ 57) (rest : List Int) (hs : ¬ (48 ≤ rest.headD 0 ∧ rest.headD 0 ≤ 57)) : figrun (r ++ rest) = r := by
  unfold figrun
  rw [List.takeWhile_append_of_pos (fun x hx => decide_eq_true ((figset_mem x).mpr (h x hx)))]
  cases rest with
  | nil => simp
  | cons x rest =>
    rw [List.takeWhile_cons, if_neg (by simpa using fun q => hs ((figset_mem x).mp q)), List.append_nil]
theorem numV_pre {r : List Int} (h : ∀ x ∈ r, 48 ≤ x ∧ x ≤ 57) (rest : List Int) (hb : Byt rest) : nv (strOfNums (r ++ rest)) r.length = numV r := by
  have hbr := fig_byt h
  have hba : Byt (r ++ rest) := fun x hx => (List.mem_append.mp hx).elim (hbr x) (hb x)
  unfold numV
  rw [nv_son _ hba _ (by simp), nv_son _ hbr _ (Nat.le_refl _), List.take_left, List.take_length]
theorem takeV_pre {r : List Int} (h : ∀ x ∈ r, 48 ≤ x ∧ x ≤ 57) (rest : List Int) (hb : Byt rest) (hs : ¬ (48 ≤ rest.headD 0 ∧ rest.headD 0 ≤ 57)) (least most : Int) (h1 : 1 ≤ least) (h2 : least ≤ most) (h3 : most ≤ 18) (h4 : least ≤ r.length) (h5 : (r.length : Int) ≤ most) :
    takeV (strOfNums (r ++ rest)) least most 9223372036854775807 = (numV r, (r.length : Int), none) := by
  have hba : Byt (r ++ rest) := fun x hx => (List.mem_append.mp hx).elim (fig_byt h x) (hb x)
  have hr : runV (strOfNums (r ++ rest)) most.toNat = r.length := by
    rw [runV_min, son_size, runG_son _ hba _ 0 (by omega), List.drop_zero, figrun_pre h rest hs]; omega
  have hlt := numV_lt h
  have hp : (10 : Int) ^ r.length ≤ 10 ^ 18 := by exact_mod_cast Nat.pow_le_pow_right (by decide) (show r.length ≤ 18 by omega)
  have e18 : (10 : Int) ^ 18 = 1000000000000000000 := by decide
  unfold takeV
  rw [if_neg (by omega), hr, if_neg (by omega), numV_pre h rest hb, if_neg (by omega)]
theorem sfig_pre (l : List Int) (i : Nat) {r : List Int} (h : ∀ x ∈ r, 48 ≤ x ∧ x ≤ 57) (rest : List Int) (hl : l.drop i = r ++ rest) (hb : Byt rest) (hs : ¬ (48 ≤ rest.headD 0 ∧ rest.headD 0 ≤ 57)) (least most : Int) (h1 : 1 ≤ least) (h2 : least ≤ most) (h3 : most ≤ 18) (h4 : least ≤ r.length) (h5 : (r.length : Int) ≤ most) :
    sfigV l i none least most = (numV r, ((i + r.length : Nat) : Int), none) := by
  unfold sfigV
  simp only [hl]
  rw [takeV_pre h rest hb hs least most h1 h2 h3 h4 h5]
  simp only []
  congr 2
theorem takeV_bd (s : ByteArray) (least most L : Int) (hL : 0 ≤ L) : 0 ≤ (takeV s least most L).1 ∧ (takeV s least most L).1 ≤ L := by
  unfold takeV
  have := nv_nonneg s (runV s most.toNat) (runV_figs s _)
  repeat' split
  all_goals (simp only; omega)
theorem sfigV_some (l : List Int) (i : Nat) (e : Option Int) (least most : Int) (hi : i ≤ l.length) (hm : 0 ≤ most) : ∃ (n : Int) (j : Nat) (e' : Option Int), sfigV l i e least most = (n, (j : Int), e') ∧ j ≤ l.length ∧ 0 ≤ n ∧ n < 10 ^ most.toNat := by
  have hp : (0 : Int) < 10 ^ most.toNat := Int.pow_pos (by decide)
  cases e with
  | some c => exact ⟨0, i, some c, rfl, hi, by decide, hp⟩
  | none =>
    have hle := takeV_le (strOfNums (l.drop i)) least most 9223372036854775807
    have hv := takeV_bd (strOfNums (l.drop i)) least most 9223372036854775807 (by decide)
    have hn : (takeV (strOfNums (l.drop i)) least most 9223372036854775807).1 < 10 ^ most.toNat := by
      have b := runV_bd (strOfNums (l.drop i)) most.toNat
      have h1 := nv_lt (strOfNums (l.drop i)) (runV (strOfNums (l.drop i)) most.toNat) (runV_figs _ _)
      have h2 : (10 : Int) ^ (runV (strOfNums (l.drop i)) most.toNat) ≤ 10 ^ most.toNat := by exact_mod_cast Nat.pow_le_pow_right (by decide) b.1
      unfold takeV
      repeat' split
      all_goals (simp only; omega)
    rw [son_size, List.length_drop] at hle
    unfold sfigV
    rcases hq : takeV (strOfNums (l.drop i)) least most 9223372036854775807 with ⟨n, m, q⟩
    rw [hq] at hle hv hn
    simp only at hle hv hn
    cases q with
    | some q => exact ⟨0, i, some q, rfl, hi, by decide, hp⟩
    | none => exact ⟨n, i + m.toNat, none, by simp only; congr 2; omega, by omega, hv.1, hn⟩
theorem ris_l0 (c : Int) (m : Nat) : ∀ x : Int, 48 ≤ x → x + m = 58 → (48 ≤ c → x ≤ c) → Ev (fun k => horologeref02_Is.l0 k c x) (decide (figb c)) := by
  induction m with
  | zero =>
    intro x h1 h2 h3
    refine Ev.up ?_
    simp only [horologeref02_Is.l0]
    rw [decide_eq_false (fun q => by unfold figb at q; omega)]
    exact Ev.neg (by omega) (Ev.now _)
  | succ m ih =>
    intro x h1 h2 h3
    refine Ev.up ?_
    simp only [horologeref02_Is.l0]
    refine Ev.pos (by omega) (Ev.ite (fun h => ?_) (fun h => ?_))
    · rw [decide_eq_true (show figb c from ⟨by omega, by omega⟩)]; exact Ev.now _
    · rw [show (x + 1) % 256 = x + 1 by omega]
      exact ih (x + 1) (by omega) (by omega) (by omega)
theorem ris_is (c : Int) : Ev (fun k => horologeref02_Is.f k c) (decide (figb c)) := ris_l0 c 10 48 (by decide) (by decide) (by omega)
theorem many_l0 (s : ByteArray) (hs : s.size ≤ 140737488351232) (f : Nat) : ∀ i : Nat, i + f = s.size → Ev (fun k => horologeref02_Many.l0 k s i) ((runG s i f : Nat) : Int) := by
  induction f with
  | zero =>
    intro i hi
    refine Ev.up ?_
    simp only [horologeref02_Many.l0, runG]
    rw [← hi]
    exact Ev.neg (by omega) (Ev.cast (Ev.now _) (by omega))
  | succ f ih =>
    intro i hi
    refine Ev.up ?_
    simp only [horologeref02_Many.l0]
    refine Ev.pos (by omega) (Ev.pos (by omega) (Ev.bind (ris_is _) (Ev.ite (fun h => ?_) (fun h => ?_))))
    · rw [wr (n := (i : Int) + 1) (by omega)]
      unfold runG
      rw [if_pos (of_decide_eq_true h)]
      exact ih (i + 1) (by omega)
    · unfold runG
      rw [if_neg (fun q => h (decide_eq_true q))]
      exact Ev.now _
theorem many_is (s : ByteArray) (hs : s.size ≤ 140737488351232) : Ev (fun k => horologeref02_Many.f k s) ((runG s 0 s.size : Nat) : Int) := many_l0 s hs s.size 0 (by omega)
theorem run_son {r : List Int} (hb : Byt r) (m : Nat) : runV (strOfNums r) m = min (figrun r).length m := by
  rw [runV_min, son_size, runG_son r hb _ 0 (by omega), List.drop_zero]; omega
def mayR (kind mo wk d : Int) : Prop := (kind = 1 ∧ 1 ≤ d ∧ d ≤ 365 ∧ mo = 0 ∧ wk = 0) ∨ (kind = 2 ∧ 0 ≤ d ∧ d ≤ 365 ∧ mo = 0 ∧ wk = 0) ∨ (kind = 3 ∧ 1 ≤ mo ∧ mo ≤ 12 ∧ 1 ≤ wk ∧ wk ≤ 5 ∧ 0 ≤ d ∧ d ≤ 6)
instance (kind mo wk d : Int) : Decidable (mayR kind mo wk d) := inferInstanceAs (Decidable (_ ∨ _ ∨ _))
def timeR (t : Int) : Prop := -604799 ≤ t ∧ t ≤ 604799
instance (t : Int) : Decidable (timeR t) := inferInstanceAs (Decidable (_ ∧ _))
/-- What is wrong with a rule. -/
def chkV (kind mo wk d t : Int) : Option Int := if 1 ≤ kind ∧ kind ≤ 3 then (if mayR kind mo wk d ∧ timeR t then none else some 1) else some 11
theorem chkV_err (kind mo wk d t : Int) : chkV kind mo wk d t ≠ some 0 := by
  unfold chkV
  repeat' split
  all_goals simp
theorem chkV_none {kind mo wk d t : Int} (h : chkV kind mo wk d t = none) : mayR kind mo wk d ∧ timeR t := by
  unfold chkV at h
  by_cases h1 : 1 ≤ kind ∧ kind ≤ 3
  · rw [if_pos h1] at h
    by_cases h2 : mayR kind mo wk d ∧ timeR t
    · exact h2
    · rw [if_neg h2] at h; cases h
  · rw [if_neg h1] at h; cases h
theorem in_is (x a b : Int) : rule_in.f x a b = some (decide (a ≤ x ∧ x ≤ b)) := by
  unfold rule_in.f
  by_cases h : x ≥ a
  · rw [if_pos h]; congr 1; exact decide_eq_decide.mpr ⟨fun q => ⟨h, q⟩, fun q => q.2⟩
  · rw [if_neg h]; congr 1; exact (decide_eq_false (fun q => h q.1)).symm
theorem may_is (kind mo wk d t : Int) (hk : 1 ≤ kind ∧ kind ≤ 3) : rule_Rule_may.f kind mo wk d t = some (decide (mayR kind mo wk d)) := by
  unfold rule_Rule_may.f
  by_cases h1 : kind = 1
  · rw [if_pos h1, in_is]
    simp only [Option.bind_some]
    by_cases h2 : 1 ≤ d ∧ d ≤ 365
    · rw [if_pos (decide_eq_true h2)]
      by_cases h3 : mo = 0
      · rw [if_pos h3]; congr 1
        rw [Bool.eq_iff_iff, beq_iff_eq, decide_eq_true_iff]
        unfold mayR; constructor
        · intro q; omega
        · intro q; omega
      · rw [if_neg h3]; congr 1; exact (decide_eq_false (fun q => by unfold mayR at q; omega)).symm
    · rw [if_neg (by simpa using h2)]; congr 1; exact (decide_eq_false (fun q => by unfold mayR at q; omega)).symm
  · rw [if_neg h1]
    by_cases h4 : kind = 2
    · rw [if_pos h4, in_is]
      simp only [Option.bind_some]
      by_cases h2 : 0 ≤ d ∧ d ≤ 365
      · rw [if_pos (decide_eq_true h2)]
        by_cases h3 : mo = 0
        · rw [if_pos h3]; congr 1
          rw [Bool.eq_iff_iff, beq_iff_eq, decide_eq_true_iff]
          unfold mayR; constructor
          · intro q; omega
          · intro q; omega
        · rw [if_neg h3]; congr 1; exact (decide_eq_false (fun q => by unfold mayR at q; omega)).symm
      · rw [if_neg (by simpa using h2)]; congr 1; exact (decide_eq_false (fun q => by unfold mayR at q; omega)).symm
    · rw [if_neg h4, in_is]
      simp only [Option.bind_some]
      by_cases h2 : 1 ≤ mo ∧ mo ≤ 12
      · rw [if_pos (decide_eq_true h2), in_is]
        simp only [Option.bind_some]
        by_cases h3 : 1 ≤ wk ∧ wk ≤ 5
        · rw [if_pos (decide_eq_true h3), in_is]
          simp only [Option.bind_some]
          congr 1
          apply decide_eq_decide.mpr
          unfold mayR; constructor
          · intro q; omega
          · intro q; omega
        · rw [if_neg (by simpa using h3)]; congr 1; exact (decide_eq_false (fun q => by unfold mayR at q; omega)).symm
      · rw [if_neg (by simpa using h2)]; congr 1; exact (decide_eq_false (fun q => by unfold mayR at q; omega)).symm
theorem chk_is (kind mo wk d t : Int) : rule_Check.f kind mo wk d t = some (chkV kind mo wk d t) := by
  unfold rule_Check.f chkV
  rw [in_is]
  simp only [Option.bind_some]
  by_cases hk : 1 ≤ kind ∧ kind ≤ 3
  · rw [if_pos (decide_eq_true hk), if_pos hk, may_is kind mo wk d t hk]
    simp only [Option.bind_some]
    by_cases hm : mayR kind mo wk d
    · rw [if_pos (decide_eq_true hm), in_is]
      simp only [Option.bind_some]
      by_cases ht : timeR t
      · rw [if_pos (decide_eq_true (show -604799 ≤ t ∧ t ≤ 604799 from ht)), if_pos ⟨hm, ht⟩]
      · rw [if_neg (by rw [decide_eq_true_iff]; exact ht), if_neg (fun q => ht q.2)]
    · rw [if_neg (by simpa using hm), if_neg (fun q => hm q.1)]
  · rw [if_neg (by simpa using hk), if_neg hk]
/-- What stands between signs. -/
def spl (c : Int) : List Int → List (List Int)
  | [] => [[]]
  | x :: t => if x = c then [] :: spl c t else (match spl c t with | [] => [[x]] | a :: r => (x :: a) :: r)
theorem spl_at (c x : Int) (t : List Int) : spl c (x :: t) = if x = c then [] :: spl c t else (match spl c t with | [] => [[x]] | a :: r => (x :: a) :: r) := rfl
def into (cur : List Int) (L : List (List Int)) : List (List Int) := match L with | [] => [cur] | a :: r => (cur ++ a) :: r
theorem spl_some (c : Int) (t : List Int) : ∃ a r, spl c t = a :: r := by
  cases t with
  | nil => exact ⟨_, _, rfl⟩
  | cons x t =>
    unfold spl
    split
    · exact ⟨_, _, rfl⟩
    · split <;> exact ⟨_, _, rfl⟩
theorem into_nil (c : Int) (t : List Int) : into [] (spl c t) = spl c t := by
  obtain ⟨a, r, h⟩ := spl_some c t
  rw [h]; rfl
theorem into_cons (c x : Int) (cur t : List Int) : into cur (spl c (x :: t)) = if x = c then cur :: spl c t else into (cur ++ [x]) (spl c t) := by
  obtain ⟨a, r, h⟩ := spl_some c t
  by_cases e : x = c
  · rw [if_pos e, spl_at, if_pos e]
    simp [into]
  · rw [if_neg e, spl_at, if_neg e, h]
    simp [into]
def tw (c : Int) (t : List Int) : List Int := t.takeWhile (fun x => x != c)
theorem tw_le (c : Int) (t : List Int) : (tw c t).length ≤ t.length := (List.takeWhile_prefix _).length_le
theorem tw_pre (c : Int) (t : List Int) : t = tw c t ++ t.drop (tw c t).length := by
  conv => lhs; rw [← List.take_append_drop (tw c t).length t]
  congr 1
  exact (List.prefix_iff_eq_take.mp (List.takeWhile_prefix _)).symm
/-- The sign stands behind what is ahead of it. -/
theorem tw_sign (c : Int) (t : List Int) (h : (tw c t).length ≠ t.length) : t.drop (tw c t).length = c :: t.drop ((tw c t).length + 1) := by
  induction t with
  | nil => exact absurd rfl h
  | cons x t ih =>
    unfold tw at *
    rw [List.takeWhile_cons] at *
    by_cases e : x = c
    · rw [if_neg (by simpa using e)]; rw [e]; rfl
    · rw [if_pos (by simpa using e)] at h ⊢
      rw [List.length_cons, List.drop_succ_cons, List.drop_succ_cons]
      exact ih (by simpa using h)
theorem spl_step (c : Int) (t : List Int) : spl c t = if (tw c t).length = t.length then [tw c t] else tw c t :: spl c (t.drop ((tw c t).length + 1)) := by
  induction t with
  | nil => rfl
  | cons x t ih =>
    by_cases e : x = c
    · have h0 : tw c (x :: t) = [] := by unfold tw; rw [List.takeWhile_cons, if_neg (by simpa using e)]
      rw [h0, spl_at, if_pos e, if_neg (by simp)]; rfl
    · have h1 : tw c (x :: t) = x :: tw c t := by unfold tw; rw [List.takeWhile_cons, if_pos (by simpa using e)]
      rw [h1, spl_at, if_neg e, ih]
      by_cases g : (tw c t).length = t.length
      · rw [if_pos g, if_pos (by simp [g])]
      · rw [if_neg g, if_neg (by simpa using g)]; rfl
def numOk (r : List Int) (a b : Int) : Prop := a ≤ (r.length : Int) ∧ (r.length : Int) ≤ b ∧ figrun r = r
instance (r : List Int) (a b : Int) : Decidable (numOk r a b) := inferInstanceAs (Decidable (_ ∧ _ ∧ _))
theorem numOk_figs {r : List Int} {a b : Int} (h : numOk r a b) : ∀ x ∈ r, 48 ≤ x ∧ x ≤ 57 := by
  rw [← h.2.2]; exact figrun_figs r
theorem rparts_l0 (l : List Int) (hb : Byt l) (c : Int) (hl : l.length ≤ 100000) (m : Nat) : ∀ (i : Nat) (pre : List (List Int)) (cur : List Int), i + m = l.length → pre.length ≤ i → cur.length ≤ i →
    Ev (fun k => horologeref16_parts.l0 k (strOfNums l) c (pre.map strOfNums ++ [strOfNums cur]) i) ((pre ++ into cur (spl c (l.drop i))).map strOfNums) := by
  induction m with
  | zero =>
    intro i pre cur hi hp hc
    refine Ev.up ?_
    simp only [horologeref16_parts.l0]
    rw [List.drop_of_length_le (by omega)]
    refine Ev.neg (by rw [son_size]; omega) (Ev.cast (Ev.now _) ?_)
    simp [spl, into]
  | succ m ih =>
    intro i pre cur hi hp hc
    have hil : i < l.length := by omega
    refine Ev.up ?_
    simp only [horologeref16_parts.l0]
    rw [bt_at_son hb hil, List.drop_eq_getElem_cons hil, into_cons, show wrap64 ((i : Int) + 1) = ((i + 1 : Nat) : Int) by rw [wr (by omega)]; rfl]
    refine Ev.pos (by rw [son_size]; omega) (Ev.pos (by omega) (Ev.ite (fun q => ?_) (fun q => ?_)))
    · rw [if_pos q]
      have := ih (i + 1) (pre ++ [cur]) [] (by omega) (by simp; omega) (by simp)
      rw [into_nil] at this
      refine Ev.pos (by simp; omega) ?_
      have e1 : (pre ++ [cur]).map strOfNums ++ [strOfNums []] = pre.map strOfNums ++ [strOfNums cur] ++ [(⟨#[]⟩ : ByteArray)] := by simp; rfl
      have e2 : (pre ++ [cur] ++ spl c (l.drop (i + 1))) = pre ++ cur :: spl c (l.drop (i + 1)) := by simp
      rw [e1, e2] at this
      exact this
    · rw [if_neg q]
      have := ih (i + 1) pre (cur ++ [l[i]]) (by omega) (by omega) (by simp; omega)
      have hlen : ((pre.map strOfNums ++ [strOfNums cur]).length : Int) - 1 = (pre.length : Int) := by simp
      rw [hlen, show wrap64 (pre.length : Int) = (pre.length : Int) from wr (by omega)]
      have hrd : rdOf ByteArray.empty (pre.map strOfNums ++ [strOfNums cur]) (pre.length : Int) = strOfNums cur := by
        unfold rdOf
        simp [List.getD_eq_getElem?_getD]
      have hset : (pre.map strOfNums ++ [strOfNums cur]).set (pre.length : Int).toNat (strOfNums cur ++ strOfNums [l[i]]) = pre.map strOfNums ++ [strOfNums (cur ++ [l[i]])] := by
        rw [Int.toNat_natCast, List.set_append_right _ _ (by simp), son_append]
        simp
      have hx : (strOfNums l).extract (i : Int).toNat (((i + 1 : Nat) : Int)).toNat = strOfNums [l[i]] := by
        rw [Int.toNat_natCast, Int.toNat_natCast, son_extract, List.drop_eq_getElem_cons hil, show i + 1 - i = 1 by omega]; rfl
      rw [hrd, hx, hset, son_size]
      exact Ev.pos (by omega) (Ev.pos (by simp; omega) (Ev.pos (by omega) (Ev.pos (by omega) (Ev.pos (by rw [son_size]; simp only [Int.toNat_natCast]; omega) this))))
theorem rparts_is (l : List Int) (hb : Byt l) (c : Int) (hl : l.length ≤ 100000) : Ev (fun k => horologeref16_parts.f k (strOfNums l) c) ((spl c l).map strOfNums) := by
  unfold horologeref16_parts.f
  have := rparts_l0 l hb c hl l.length 0 [] [] (by omega) (Nat.le_refl _) (Nat.le_refl _)
  rw [List.drop_zero, into_nil] at this
  exact this
theorem nv_bd (s : ByteArray) (n : Nat) (hn : n ≤ 17) (h : ∀ i : Nat, i < n → figb (bt s i)) : 0 ≤ nv s n ∧ nv s n < 100000000000000000 := by
  have a := nv_nonneg s n h
  have b := nv_lt s n h
  have hp : (10 : Int) ^ n ≤ 10 ^ 17 := by exact_mod_cast Nat.pow_le_pow_right (by decide) hn
  have e : (10 : Int) ^ 17 = 100000000000000000 := by decide
  omega
theorem rnum_l0 (r : List Int) (hf : ∀ x ∈ r, 48 ≤ x ∧ x ≤ 57) (hl : r.length ≤ 17) (m : Nat) : ∀ i : Nat, i + m = r.length → Ev (fun k => horologeref16_number.l0 k (strOfNums r) (nv (strOfNums r) i) i) (numV r, true) := by
  induction m with
  | zero =>
    intro i hi
    refine Ev.up ?_
    simp only [horologeref16_number.l0]
    refine Ev.neg (by rw [son_size]; omega) (Ev.cast (Ev.now _) ?_)
    rw [show i = r.length by omega]; rfl
  | succ m ih =>
    intro i hi
    have hd := fig_bt hf i (by omega)
    unfold figb at hd
    have b := nv_bd (strOfNums r) i (by omega) (fun j hj => fig_bt hf j (by omega))
    have b2 := nv_bd (strOfNums r) (i + 1) (by omega) (fun j hj => fig_bt hf j (by omega))
    have e : nv (strOfNums r) (i + 1) = nv (strOfNums r) i * 10 + (bt (strOfNums r) i - 48) := rfl
    refine Ev.up ?_
    simp only [horologeref16_number.l0]
    rw [show (bt (strOfNums r) i - 48) % 256 = bt (strOfNums r) i - 48 by omega, show wrap64 (nv (strOfNums r) i * 10) = nv (strOfNums r) i * 10 from wr (by omega), show wrap64 (nv (strOfNums r) i * 10 + (bt (strOfNums r) i - 48)) = nv (strOfNums r) (i + 1) by rw [wr (by omega), e], show wrap64 ((i : Int) + 1) = ((i + 1 : Nat) : Int) by rw [wr (by omega)]; rfl]
    exact Ev.pos (by rw [son_size]; omega) (Ev.pos (by omega) (ih (i + 1) (by omega)))
theorem rnum_is (r : List Int) (hb : Byt r) (hl : r.length ≤ 100000) (a b : Int) (hbb : b ≤ 17) : Ev (fun k => horologeref16_number.f k (strOfNums r) a b) (if numOk r a b then (numV r, true) else (0, false)) := by
  unfold horologeref16_number.f
  have bad : ¬ numOk r a b → Ev (fun k => horologeref16_number.j0 k (strOfNums r) true) (if numOk r a b then (numV r, true) else (0, false)) := by
    intro h
    rw [if_neg h]
    refine Ev.up ?_
    simp only [horologeref16_number.j0, if_true]
    exact Ev.now _
  rw [son_size]
  refine Ev.ite (fun q => bad (fun z => by have := z.1; omega)) (fun q1 => Ev.ite (fun q => bad (fun z => by have := z.2.1; omega)) (fun q2 => ?_))
  have m := many_is (strOfNums r) (by rw [son_size]; omega)
  rw [son_size, runG_son r hb _ 0 (by omega), List.drop_zero, Nat.zero_add] at m
  have fl := figrun_len r
  refine Ev.bind m ?_
  by_cases g : figrun r = r
  · have ok : numOk r a b := ⟨by omega, by omega, g⟩
    rw [g, decide_eq_false (by omega), if_pos ok]
    refine Ev.up ?_
    simp only [horologeref16_number.j0, Bool.false_eq_true, if_false]
    exact rnum_l0 r (numOk_figs ok) (by omega) r.length 0 (by omega)
  · have : (figrun r).length ≠ r.length := fun z => g ((List.takeWhile_prefix _).eq_of_length z)
    rw [decide_eq_true (by omega)]
    exact bad (fun z => g z.2.2)
/-- The seconds of a text's parts. -/
def clkV (L : List (List Int)) (most sg : Int) : Int × Option Int := match L with
  | [H] => if numOk H 1 3 then (if numV H > most then (0, some 1) else (sg * (numV H * 3600), none)) else (0, some 2)
  | [H, M] => if numOk H 1 3 ∧ numOk M 2 2 then (if numV H > most ∨ numV M > 59 then (0, some 1) else (sg * (numV H * 3600 + numV M * 60), none)) else (0, some 2)
  | [H, M, R] => if numOk H 1 3 ∧ numOk M 2 2 ∧ numOk R 2 2 then (if numV H > most ∨ numV M > 59 ∨ numV R > 59 then (0, some 1) else (sg * (numV H * 3600 + numV M * 60 + numV R), none)) else (0, some 2)
  | _ => (0, some 2)
theorem clk_bad0 (H : List Int) (r : List (List Int)) (most sg : Int) (h : ¬ numOk H 1 3) : clkV (H :: r) most sg = (0, some 2) := by
  match r with
  | [] => exact if_neg h
  | [M] => exact if_neg (fun q => h q.1)
  | [M, R] => exact if_neg (fun q => h q.1)
  | M :: R :: Q :: r => rfl
theorem clk_bad1 (H M : List Int) (r : List (List Int)) (most sg : Int) (h : ¬ numOk M 2 2) : clkV (H :: M :: r) most sg = (0, some 2) := by
  match r with
  | [] => exact if_neg (fun q => h q.2)
  | [R] => exact if_neg (fun q => h q.2.1)
  | R :: Q :: r => rfl
theorem clk_bad2 (H M R : List Int) (r : List (List Int)) (most sg : Int) (h : ¬ numOk R 2 2) : clkV (H :: M :: R :: r) most sg = (0, some 2) := by
  match r with
  | [] => exact if_neg (fun q => h q.2.2)
  | Q :: r => rfl
theorem clk_long (H M R Q : List Int) (r : List (List Int)) (most sg : Int) : clkV (H :: M :: R :: Q :: r) most sg = (0, some 2) := rfl
theorem clkV_err (L : List (List Int)) (most sg : Int) : (clkV L most sg).2 ≠ some 0 := by
  unfold clkV
  repeat' split
  all_goals simp
theorem numOk_bd {r : List Int} {a b : Int} (h : numOk r a b) : 0 ≤ numV r ∧ (b = 3 → numV r ≤ 999) ∧ (b = 2 → numV r ≤ 99) := by
  have f := numOk_figs h
  have l := numV_lt f
  refine ⟨numV_nonneg f, fun q => ?_, fun q => ?_⟩
  · have hp : (10 : Int) ^ r.length ≤ 10 ^ 3 := by exact_mod_cast Nat.pow_le_pow_right (by decide) (show r.length ≤ 3 by have := h.2.1; omega)
    have e : (10 : Int) ^ 3 = 1000 := by decide
    omega
  · have hp : (10 : Int) ^ r.length ≤ 10 ^ 2 := by exact_mod_cast Nat.pow_le_pow_right (by decide) (show r.length ≤ 2 by have := h.2.1; omega)
    have e : (10 : Int) ^ 2 = 100 := by decide
    omega
/-- The sign that a text begins with: what it says, and how many bytes it has. -/
def sgV (l : List Int) : Int := if l.headD 0 = 45 then -1 else 1
def siV (l : List Int) : Nat := if l.headD 0 = 45 ∨ l.headD 0 = 43 then 1 else 0
def clockP (l : List Int) (most : Int) : Int × Option Int := if 0 ≤ most ∧ most ≤ 999 then clkV (spl 58 (l.drop (siV l))) most (sgV l) else (0, some 1)
theorem clockP_err (l : List Int) (most : Int) : (clockP l most).2 ≠ some 0 := by
  unfold clockP
  split
  · exact clkV_err _ _ _
  · simp
/-- Where a scanner stands so that it can't go on, and isn't at the end. -/
def Stuck (l : List Int) (j : Nat) (e : Option Int) (c : Int) : Prop := comesV (leftV l j e) c = false ∧ endV l j e ≠ none
theorem tw_drop_head (c : Int) (t : List Int) : ∀ x, (t.drop (tw c t).length).head? = some x → x = c := by
  intro x hx
  by_cases h : (tw c t).length = t.length
  · rw [h, List.drop_length] at hx; cases hx
  · rw [tw_sign c t h] at hx
    exact (Option.some.inj hx).symm
theorem fld_ok (l : List Int) (hb : Byt l) (i : Nat) (c : Int) (hc : ¬ (48 ≤ c ∧ c ≤ 57)) (least most : Int) (h1 : 1 ≤ least) (h2 : least ≤ most) (h3 : most ≤ 18) (h : numOk (tw c (l.drop i)) least most) :
    sfigV l i none least most = (numV (tw c (l.drop i)), ((i + (tw c (l.drop i)).length : Nat) : Int), none) := by
  refine sfig_pre l i (numOk_figs h) _ (tw_pre c (l.drop i)) ((hb.drop i).drop _) ?_ least most h1 h2 h3 h.1 h.2.1
  have hd := tw_drop_head c (l.drop i)
  generalize (l.drop i).drop (tw c (l.drop i)).length = rest at *
  cases rest with
  | nil => show ¬ (48 ≤ (0 : Int) ∧ (0 : Int) ≤ 57); omega
  | cons x rest =>
    have := hd x rfl
    show ¬ (48 ≤ x ∧ x ≤ 57)
    rw [this]; exact hc
theorem tw_get {p : Int → Bool} {t : List Int} {r : Nat} (h : r < (t.takeWhile p).length) (h2 : r < t.length) : p t[r] = true := by
  have hm := List.getElem_mem (l := t.takeWhile p) h
  have hq := List.all_eq_true.mp (List.all_takeWhile (p := p) (l := t)) _ hm
  rw [(List.takeWhile_prefix p).getElem h] at hq
  exact hq
theorem run_tw (c : Int) (hc : ¬ (48 ≤ c ∧ c ≤ 57)) (t : List Int) : (figrun t).length ≤ (tw c t).length ∧ ((figrun t).length = (tw c t).length → figrun (tw c t) = tw c t) := by
  have hpre : tw c t = figrun t ++ (tw c t).drop (figrun t).length ∧ (figrun t).length ≤ (tw c t).length := by
    induction t with
    | nil => exact ⟨rfl, Nat.le_refl _⟩
    | cons x t ih =>
      unfold figrun tw at *
      rw [List.takeWhile_cons, List.takeWhile_cons]
      by_cases hx : x ∈ figset
      · have hf := (figset_mem x).mp hx
        rw [if_pos (decide_eq_true hx), if_pos (by simp only [bne_iff_ne, ne_eq]; intro q; exact hc (q ▸ hf))]
        refine ⟨?_, by simpa using ih.2⟩
        rw [List.length_cons, List.drop_succ_cons, List.cons_append, ← ih.1]
      · rw [if_neg (show ¬ (decide (x ∈ figset) = true) by simpa using hx)]
        exact ⟨by simp, by simp⟩
  refine ⟨hpre.2, fun h => ?_⟩
  have e : tw c t = figrun t := by
    rw [h, List.drop_length, List.append_nil] at hpre
    exact hpre.1
  rw [e]
  exact figrun_self (figrun_figs t)
theorem fld_not (l : List Int) (hb : Byt l) (i : Nat) (hi : i ≤ l.length) (c : Int) (hc : ¬ (48 ≤ c ∧ c ≤ 57)) (least most : Int) (h1 : 1 ≤ least) (h2 : least ≤ most) (h3 : most ≤ 18) (h : ¬ numOk (tw c (l.drop i)) least most) :
    ∃ (n : Int) (j : Nat) (e : Option Int), sfigV l i none least most = (n, (j : Int), e) ∧ j ≤ l.length ∧ Stuck l j e c ∧ 0 ≤ n ∧ n < 10 ^ most.toNat := by
  obtain ⟨n, j, e, hs, hj, hn0, hn1⟩ := sfigV_some l i none least most hi (by omega)
  refine ⟨n, j, e, hs, hj, ?_, hn0, hn1⟩
  cases e with
  | some q => exact ⟨rfl, by simp [endV]⟩
  | none =>
    have bd := hb.drop i
    have hr := run_son bd most.toNat
    obtain ⟨w1, w2⟩ := run_tw c hc (l.drop i)
    have wl := tw_le c (l.drop i)
    have fl := figrun_len (l.drop i)
    have hlen : (l.drop i).length = l.length - i := List.length_drop
    -- what was taken
    have hjr : j = i + runV (strOfNums (l.drop i)) most.toNat := by
      unfold sfigV at hs
      unfold takeV at hs
      rw [if_neg (by omega)] at hs
      by_cases g : (runV (strOfNums (l.drop i)) most.toNat : Int) < least
      · rw [if_pos g] at hs
        simp only [Prod.mk.injEq] at hs
        exact absurd hs.2.2 (by simp)
      · rw [if_neg g] at hs
        by_cases g2 : nv (strOfNums (l.drop i)) (runV (strOfNums (l.drop i)) most.toNat) > 9223372036854775807
        · rw [if_pos g2] at hs
          simp only [Prod.mk.injEq] at hs
          exact absurd hs.2.2 (by simp)
        · rw [if_neg g2] at hs
          simp only [Prod.mk.injEq] at hs
          omega
    have hge : least ≤ (runV (strOfNums (l.drop i)) most.toNat : Int) := by
      unfold sfigV takeV at hs
      rw [if_neg (by omega)] at hs
      by_cases g : (runV (strOfNums (l.drop i)) most.toNat : Int) < least
      · rw [if_pos g] at hs
        simp only [Prod.mk.injEq] at hs
        exact absurd hs.2.2 (by simp)
      · omega
    rw [hr] at hjr hge
    have next : ∃ hlt : min (figrun (l.drop i)).length most.toNat < (l.drop i).length, (l.drop i)[min (figrun (l.drop i)).length most.toNat] ≠ c := by
      by_cases g : most.toNat < (figrun (l.drop i)).length
      · have hlt : min (figrun (l.drop i)).length most.toNat < (l.drop i).length := by omega
        refine ⟨hlt, ?_⟩
        have := tw_get (p := fun x => decide (x ∈ figset)) (t := l.drop i) (r := min (figrun (l.drop i)).length most.toNat) (by show _ < (figrun (l.drop i)).length; omega) hlt
        have hf := (figset_mem _).mp (of_decide_eq_true this)
        intro q
        rw [q] at hf
        exact hc hf
      · have hne : (figrun (l.drop i)).length ≠ (tw c (l.drop i)).length := by
          intro q
          exact h ⟨by omega, by omega, w2 q⟩
        have hlt : min (figrun (l.drop i)).length most.toNat < (l.drop i).length := by omega
        refine ⟨hlt, ?_⟩
        have := tw_get (p := fun x => x != c) (t := l.drop i) (r := min (figrun (l.drop i)).length most.toNat) (by show _ < (tw c (l.drop i)).length; omega) hlt
        simpa using this
    obtain ⟨hlt, hne⟩ := next
    have hjl : j < l.length := by omega
    have hg : l[j] ≠ c := by
      rw [List.getElem_drop] at hne
      intro q
      apply hne
      rw [← q]
      congr 1
      exact hjr.symm
    refine ⟨?_, ?_⟩
    · rw [leftV_none, List.drop_eq_getElem_cons hjl]
      unfold comesV
      rw [List.head?_cons]
      simpa using hg
    · unfold endV
      simp only
      rw [if_pos hjl]; simp
theorem part_no (l : List Int) (hb : Byt l) (j : Nat) (e : Option Int) (hj : j ≤ l.length) (hl : l.length ≤ 100000) (h : comesV (leftV l j e) 58 = false) : Ev (fun k => rule_part.f k (strOfNums l) j e) (0, false, strOfNums l, (j : Int), e) := by
  unfold rule_part.f
  have t := sTake_is l hb j e 58 hj (by omega)
  rw [h] at t
  exact Ev.bindc t (Ev.neg (by simp) (Ev.now _))
theorem part_yes (l : List Int) (hb : Byt l) (j : Nat) (hj : j + 1 ≤ l.length) (hl : l.length ≤ 100000) (h : comesV (leftV l j none) 58 = true) {n : Int} {j2 : Nat} {e : Option Int} (hs : sfigV l (j + 1) none 2 2 = (n, (j2 : Int), e)) : Ev (fun k => rule_part.f k (strOfNums l) j none) (n, true, strOfNums l, (j2 : Int), e) := by
  unfold rule_part.f
  have t := sTake_is l hb j none 58 (by omega) (by omega)
  rw [h] at t
  have f := sFigures_is l hb (j + 1) none 2 2 hj (by omega)
  rw [hs] at f
  exact Ev.bindc t (Ev.pos rfl (Ev.bind f (Ev.now _)))
theorem pj1_bad (l : List Int) (most h m r : Int) (b : Bool) (j : Nat) (e : Option Int) (hj : j ≤ l.length) (hs : endV l j e ≠ none) : Ev (fun k => rule_ParseClock.j1 k most b h m r (strOfNums l) j e) (0, some 2) := by
  refine Ev.up ?_
  simp only [rule_ParseClock.j1]
  refine Ev.bindc (sEnd_is l j e hj) (Ev.neg ?_ (Ev.now _))
  intro q
  apply hs
  cases hq : endV l j e with
  | none => rfl
  | some c => rw [hq] at q; cases q
theorem pj1_end (l : List Int) (most h m r : Int) (b : Bool) (j : Nat) (hj : j = l.length) (hh : 0 ≤ h ∧ h ≤ 999) (hm : 0 ≤ m ∧ m ≤ 99) (hr : 0 ≤ r ∧ r ≤ 99) :
    Ev (fun k => rule_ParseClock.j1 k most b h m r (strOfNums l) j none) (if h > most ∨ m > 59 ∨ r > 59 then (0, some 1) else ((if b = true then -1 else 1) * (h * 3600 + m * 60 + r), none)) := by
  have he : endV l j none = none := by unfold endV; simp only; rw [if_neg (by omega)]
  have t := sEnd_is l j none (by omega)
  rw [he] at t
  have bad : (h > most ∨ m > 59 ∨ r > 59) → Ev (fun k => rule_ParseClock.j2 k b h m r true) (if h > most ∨ m > 59 ∨ r > 59 then (0, some 1) else ((if b = true then -1 else 1) * (h * 3600 + m * 60 + r), none)) := by
    intro q
    rw [if_pos q]
    refine Ev.up ?_
    simp only [rule_ParseClock.j2, if_true]
    exact Ev.now _
  refine Ev.up ?_
  simp only [rule_ParseClock.j1]
  refine Ev.bindc t (Ev.pos rfl (Ev.ite (fun q => bad (Or.inl q)) (fun q1 => Ev.ite (fun q => bad (Or.inr (Or.inl (by omega)))) (fun q2 => ?_))))
  by_cases q3 : r ≥ 60
  · rw [decide_eq_true q3]; exact bad (Or.inr (Or.inr (by omega)))
  · rw [decide_eq_false q3, if_neg (by omega)]
    refine Ev.up ?_
    simp only [rule_ParseClock.j2, Bool.false_eq_true, if_false]
    rw [show wrap64 (h * 3600) = h * 3600 from wr (by omega), show wrap64 (m * 60) = m * 60 from wr (by omega), show wrap64 (h * 3600 + m * 60) = h * 3600 + m * 60 from wr (by omega), show wrap64 (h * 3600 + m * 60 + r) = h * 3600 + m * 60 + r from wr (by omega), show wrap64 (-(h * 3600 + m * 60 + r)) = -(h * 3600 + m * 60 + r) from wr (by omega)]
    cases b with
    | true => exact Ev.pos rfl (Ev.cast (Ev.now _) (by simp))
    | false => exact Ev.neg (by decide) (Ev.cast (Ev.now _) (by simp))
theorem comes_at (l : List Int) (j : Nat) (c : Int) (r : List Int) (h : l.drop j = c :: r) : comesV (leftV l j none) c = true := by
  rw [leftV_none, h]
  simp [comesV]
theorem comes_end (l : List Int) (j : Nat) (c : Int) (h : l.length ≤ j) : comesV (leftV l j none) c = false := by
  rw [leftV_none, List.drop_of_length_le h]; rfl
theorem pj0_is (l : List Int) (hb : Byt l) (hl : l.length ≤ 100000) (most : Int) (b : Bool) (i : Nat) (hi : i ≤ l.length) : Ev (fun k => rule_ParseClock.j0 k most b (strOfNums l) i none) (clkV (spl 58 (l.drop i)) most (if b = true then -1 else 1)) := by
  have hc : ¬ (48 ≤ (58 : Int) ∧ (58 : Int) ≤ 57) := by decide
  have f1 := sFigures_is l hb i none 1 3 hi (by omega)
  have dl : (l.drop i).length = l.length - i := List.length_drop
  have al := tw_le 58 (l.drop i)
  refine Ev.up ?_
  simp only [rule_ParseClock.j0]
  by_cases o1 : numOk (tw 58 (l.drop i)) 1 3
  · rw [fld_ok l hb i 58 hc 1 3 (by decide) (by decide) (by decide) o1] at f1
    obtain ⟨n1, n1b, _⟩ := numOk_bd o1
    have n1b := n1b rfl
    refine Ev.bind f1 ?_
    simp only []
    rw [spl_step]
    by_cases e1 : (tw 58 (l.drop i)).length = (l.drop i).length
    · rw [if_pos e1]
      refine Ev.bind (part_no l hb _ none (by omega) hl (comes_end l _ 58 (by omega))) (Ev.neg (by simp) ?_)
      have := pj1_end l most (numV (tw 58 (l.drop i))) 0 0 b _ (show i + (tw 58 (l.drop i)).length = l.length by omega) ⟨n1, n1b⟩ (by decide) (by decide)
      refine Ev.cast this ?_
      unfold clkV
      simp only
      rw [if_pos (show numOk (tw 58 (l.drop i)) 1 3 from o1)]
      by_cases g : numV (tw 58 (l.drop i)) > most
      · rw [if_pos (show numV (tw 58 (l.drop i)) > most ∨ (0 : Int) > 59 ∨ (0 : Int) > 59 from Or.inl g), if_pos g]
      · rw [if_neg (show ¬ (numV (tw 58 (l.drop i)) > most ∨ (0 : Int) > 59 ∨ (0 : Int) > 59) by omega), if_neg g]; simp
    · rw [if_neg e1]
      have s1 := tw_sign 58 (l.drop i) e1
      rw [List.drop_drop, List.drop_drop] at s1
      generalize ha : tw 58 (l.drop i) = A at *
      rw [List.drop_drop, show i + (A.length + 1) = i + A.length + 1 by omega]
      rw [show i + (A.length + 1) = i + A.length + 1 by omega] at s1
      have c1 := comes_at l _ 58 _ s1
      have d2 : (l.drop (i + A.length + 1)).length = l.length - (i + A.length + 1) := List.length_drop
      have b2 := tw_le 58 (l.drop (i + A.length + 1))
      rw [spl_step]
      by_cases o2 : numOk (tw 58 (l.drop (i + A.length + 1))) 2 2
      · have f2 := fld_ok l hb (i + A.length + 1) 58 hc 2 2 (by decide) (by decide) (by decide) o2
        obtain ⟨n2, _, n2b⟩ := numOk_bd o2
        have n2b := n2b rfl
        refine Ev.bind (part_yes l hb _ (by omega) hl c1 f2) (Ev.pos rfl ?_)
        simp only []
        by_cases e2 : (tw 58 (l.drop (i + A.length + 1))).length = (l.drop (i + A.length + 1)).length
        · rw [if_pos e2]
          refine Ev.bind (part_no l hb _ none (by omega) hl (comes_end l _ 58 (by omega))) ?_
          have := pj1_end l most (numV A) (numV (tw 58 (l.drop (i + A.length + 1)))) 0 b _ (show i + A.length + 1 + (tw 58 (l.drop (i + A.length + 1))).length = l.length by omega) ⟨n1, n1b⟩ ⟨n2, n2b⟩ (by decide)
          refine Ev.cast this ?_
          unfold clkV
          simp only
          rw [if_pos (show numOk A 1 3 ∧ numOk (tw 58 (l.drop (i + A.length + 1))) 2 2 from ⟨o1, o2⟩)]
          by_cases g : numV A > most ∨ numV (tw 58 (l.drop (i + A.length + 1))) > 59
          · rw [if_pos (show numV A > most ∨ numV (tw 58 (l.drop (i + A.length + 1))) > 59 ∨ (0 : Int) > 59 by omega), if_pos g]
          · rw [if_neg (show ¬ (numV A > most ∨ numV (tw 58 (l.drop (i + A.length + 1))) > 59 ∨ (0 : Int) > 59) by omega), if_neg g]; simp
        · rw [if_neg e2]
          have s2 := tw_sign 58 (l.drop (i + A.length + 1)) e2
          rw [List.drop_drop, List.drop_drop] at s2
          generalize hB : tw 58 (l.drop (i + A.length + 1)) = B at *
          rw [List.drop_drop, show i + A.length + 1 + (B.length + 1) = i + A.length + 1 + B.length + 1 by omega]
          rw [show i + A.length + 1 + (B.length + 1) = i + A.length + 1 + B.length + 1 by omega] at s2
          have c2 := comes_at l _ 58 _ s2
          have d3 : (l.drop (i + A.length + 1 + B.length + 1)).length = l.length - (i + A.length + 1 + B.length + 1) := List.length_drop
          have b3 := tw_le 58 (l.drop (i + A.length + 1 + B.length + 1))
          rw [spl_step]
          by_cases o3 : numOk (tw 58 (l.drop (i + A.length + 1 + B.length + 1))) 2 2
          · have f3 := fld_ok l hb (i + A.length + 1 + B.length + 1) 58 hc 2 2 (by decide) (by decide) (by decide) o3
            obtain ⟨n3, _, n3b⟩ := numOk_bd o3
            have n3b := n3b rfl
            refine Ev.bind (part_yes l hb _ (by omega) hl c2 f3) ?_
            simp only []
            by_cases e3 : (tw 58 (l.drop (i + A.length + 1 + B.length + 1))).length = (l.drop (i + A.length + 1 + B.length + 1)).length
            · rw [if_pos e3]
              have := pj1_end l most (numV A) (numV B) (numV (tw 58 (l.drop (i + A.length + 1 + B.length + 1)))) b _ (show i + A.length + 1 + B.length + 1 + (tw 58 (l.drop (i + A.length + 1 + B.length + 1))).length = l.length by omega) ⟨n1, n1b⟩ ⟨n2, n2b⟩ ⟨n3, n3b⟩
              refine Ev.cast this ?_
              unfold clkV
              simp only
              rw [if_pos (show numOk A 1 3 ∧ numOk B 2 2 ∧ numOk (tw 58 (l.drop (i + A.length + 1 + B.length + 1))) 2 2 from ⟨o1, o2, o3⟩)]
            · rw [if_neg e3]
              obtain ⟨q, r, hq⟩ := spl_some 58 ((l.drop (i + A.length + 1 + B.length + 1)).drop ((tw 58 (l.drop (i + A.length + 1 + B.length + 1))).length + 1))
              rw [hq, clk_long]
              exact pj1_bad l most _ _ _ b _ none (by omega) (by unfold endV; simp only; rw [if_pos (by omega)]; simp)
          · obtain ⟨n, j, e, hs, hj, hst, hn0, hn1⟩ := fld_not l hb (i + A.length + 1 + B.length + 1) (by omega) 58 hc 2 2 (by decide) (by decide) (by decide) o3
            refine Ev.bind (part_yes l hb _ (by omega) hl c2 hs) ?_
            simp only []
            have e : clkV (A :: B :: (if (tw 58 (l.drop (i + A.length + 1 + B.length + 1))).length = (l.drop (i + A.length + 1 + B.length + 1)).length then [tw 58 (l.drop (i + A.length + 1 + B.length + 1))] else tw 58 (l.drop (i + A.length + 1 + B.length + 1)) :: spl 58 ((l.drop (i + A.length + 1 + B.length + 1)).drop ((tw 58 (l.drop (i + A.length + 1 + B.length + 1))).length + 1)))) most (if b = true then -1 else 1) = (0, some 2) := by
              split <;> exact clk_bad2 _ _ _ _ _ _ o3
            rw [e]
            exact pj1_bad l most _ _ _ b j _ hj hst.2
      · obtain ⟨n, j, e, hs, hj, hst, hn0, hn1⟩ := fld_not l hb (i + A.length + 1) (by omega) 58 hc 2 2 (by decide) (by decide) (by decide) o2
        refine Ev.bind (part_yes l hb _ (by omega) hl c1 hs) (Ev.pos rfl (Ev.bind (part_no l hb j e hj hl hst.1) ?_))
        simp only []
        have e2 : clkV (A :: (if (tw 58 (l.drop (i + A.length + 1))).length = (l.drop (i + A.length + 1)).length then [tw 58 (l.drop (i + A.length + 1))] else tw 58 (l.drop (i + A.length + 1)) :: spl 58 ((l.drop (i + A.length + 1)).drop ((tw 58 (l.drop (i + A.length + 1))).length + 1)))) most (if b = true then -1 else 1) = (0, some 2) := by
          split <;> exact clk_bad1 _ _ _ _ _ o2
        rw [e2]
        exact pj1_bad l most _ _ _ b j e hj hst.2
  · obtain ⟨n, j, e, hs, hj, hst, hn0, hn1⟩ := fld_not l hb i hi 58 hc 1 3 (by decide) (by decide) (by decide) o1
    rw [hs] at f1
    refine Ev.bind f1 (Ev.bind (part_no l hb j e hj hl hst.1) (Ev.neg (by simp) ?_))
    simp only []
    obtain ⟨r, hr⟩ : ∃ r, spl 58 (l.drop i) = tw 58 (l.drop i) :: r := by
      rw [spl_step]; split <;> exact ⟨_, rfl⟩
    rw [hr, clk_bad0 _ _ _ _ o1]
    exact pj1_bad l most _ _ _ b j e hj hst.2
theorem parseclock_is (l : List Int) (hb : Byt l) (hl : l.length ≤ 100000) (most : Int) : Ev (fun k => rule_ParseClock.f k (strOfNums l) most) (clockP l most) := by
  unfold rule_ParseClock.f clockP
  refine Ev.bindc (in_is most 0 999) ?_
  by_cases hm : 0 ≤ most ∧ most ≤ 999
  · rw [if_pos hm]
    refine Ev.pos (decide_eq_true hm) (Ev.bindc (show scan_New_string.f (strOfNums l) = some (strOfNums l, ((0 : Nat) : Int), none) from rfl) (Ev.bindc (sTake_is l hb 0 none 45 (by omega) (by omega)) ?_))
    simp only [leftV_none, List.drop_zero]
    have hc : ∀ c, c ≠ 0 → comesV l c = decide (l.headD 0 = c) := by
      intro c h0
      cases l with
      | nil => simp [comesV]; exact fun q => h0 q.symm
      | cons x l => unfold comesV; rw [List.head?_cons, Bool.eq_iff_iff]; simp
    have one : ∀ c, c ≠ 0 → l.headD 0 = c → 1 ≤ l.length := by
      intro c h0 h
      cases l with
      | nil => exact absurd h.symm h0
      | cons x l => simp
    rw [hc 45 (by decide)]
    unfold sgV siV
    by_cases h45 : l.headD 0 = 45
    · rw [decide_eq_true h45, if_pos rfl, if_pos h45, if_pos (Or.inl h45)]
      have := pj0_is l hb hl most true 1 (one 45 (by decide) h45)
      exact Ev.pos rfl this
    · rw [decide_eq_false h45, if_neg (by decide), if_neg h45]
      refine Ev.neg (by decide) (Ev.bindc (sTake_is l hb 0 none 43 (by omega) (by omega)) ?_)
      simp only [leftV_none, List.drop_zero]
      rw [hc 43 (by decide)]
      by_cases h43 : l.headD 0 = 43
      · rw [decide_eq_true h43, if_pos rfl, if_pos (Or.inr h43)]
        exact pj0_is l hb hl most false 1 (one 43 (by decide) h43)
      · rw [decide_eq_false h43, if_neg (by decide), if_neg (fun q => q.elim h45 h43)]
        exact pj0_is l hb hl most false 0 (by omega)
  · rw [if_neg hm]
    exact Ev.neg (by simpa using hm) (Ev.now _)
def en (e : Option Int) : Int := match e with | none => 0 | some c => c
theorem num_en (e : Option Int) (h : e ≠ some 0) : horologenum_Num.f e = some (en e) := by
  rw [num_is]
  cases e with
  | none => rfl
  | some c =>
    have : c ≠ 0 := fun q => h (by rw [q])
    simp [en, this]
theorem doc_is (kind mo wk d t : Int) : horologelaw16_Document.f kind mo wk d t = some (kind, mo, wk, d, t) := rfl
theorem rchk_is (kind mo wk d t : Int) : Ev (fun k => horologeref16_Check.f k kind mo wk d t) (en (chkV kind mo wk d t)) := by
  unfold horologeref16_Check.f
  have j : ∀ b : Bool, (b = true ↔ timeR t) → Ev (fun k => horologeref16_Check.j0 k b kind mo wk d t) (en (chkV kind mo wk d t)) := by
    intro b hb
    refine Ev.up ?_
    simp only [horologeref16_Check.j0]
    unfold chkV
    have no : ∀ {g : Nat → Option Int}, (1 ≤ kind ∧ kind ≤ 3) → ¬ (mayR kind mo wk d ∧ timeR t) → Ev g 1 → Ev g (en (if 1 ≤ kind ∧ kind ≤ 3 then (if mayR kind mo wk d ∧ timeR t then none else some 1) else some 11)) := by
      intro g h1 h2 h3
      rw [if_pos h1, if_neg h2]; exact h3
    have yes : ∀ {g : Nat → Option Int}, (1 ≤ kind ∧ kind ≤ 3) → (mayR kind mo wk d ∧ timeR t) → Ev g 0 → Ev g (en (if 1 ≤ kind ∧ kind ≤ 3 then (if mayR kind mo wk d ∧ timeR t then none else some 1) else some 11)) := by
      intro g h1 h2 h3
      rw [if_pos h1, if_pos h2]; exact h3
    refine Ev.ite (fun k1 => ?_) (fun k1 => Ev.ite (fun k2 => ?_) (fun k2 => Ev.ite (fun k3 => ?_) (fun k3 => ?_)))
    · refine Ev.ite (fun q0 => ?_) (fun q0 => no (by omega) (fun z => q0 (hb.mpr z.2)) (Ev.now _))
      refine Ev.ite (fun q1 => ?_) (fun q1 => no (by omega) (fun z => by unfold mayR at z; omega) (Ev.now _))
      refine Ev.ite (fun q2 => ?_) (fun q2 => no (by omega) (fun z => by unfold mayR at z; omega) (Ev.now _))
      refine Ev.ite (fun q3 => ?_) (fun q3 => no (by omega) (fun z => by unfold mayR at z; omega) (Ev.now _))
      refine Ev.ite (fun q4 => ?_) (fun q4 => no (by omega) (fun z => by unfold mayR at z; omega) (Ev.now _))
      exact yes (by omega) ⟨by unfold mayR; omega, hb.mp q0⟩ (Ev.now _)
    · refine Ev.ite (fun q0 => ?_) (fun q0 => no (by omega) (fun z => q0 (hb.mpr z.2)) (Ev.now _))
      refine Ev.ite (fun q1 => ?_) (fun q1 => no (by omega) (fun z => by unfold mayR at z; omega) (Ev.now _))
      refine Ev.ite (fun q2 => ?_) (fun q2 => no (by omega) (fun z => by unfold mayR at z; omega) (Ev.now _))
      refine Ev.ite (fun q3 => ?_) (fun q3 => no (by omega) (fun z => by unfold mayR at z; omega) (Ev.now _))
      refine Ev.ite (fun q4 => ?_) (fun q4 => no (by omega) (fun z => by unfold mayR at z; omega) (Ev.now _))
      exact yes (by omega) ⟨by unfold mayR; omega, hb.mp q0⟩ (Ev.now _)
    · refine Ev.ite (fun q0 => ?_) (fun q0 => no (by omega) (fun z => q0 (hb.mpr z.2)) (Ev.now _))
      refine Ev.ite (fun q1 => ?_) (fun q1 => no (by omega) (fun z => by unfold mayR at z; omega) (Ev.now _))
      refine Ev.ite (fun q2 => ?_) (fun q2 => no (by omega) (fun z => by unfold mayR at z; omega) (Ev.now _))
      refine Ev.ite (fun q3 => ?_) (fun q3 => no (by omega) (fun z => by unfold mayR at z; omega) (Ev.now _))
      refine Ev.ite (fun q4 => ?_) (fun q4 => no (by omega) (fun z => by unfold mayR at z; omega) (Ev.now _))
      refine Ev.ite (fun q5 => ?_) (fun q5 => no (by omega) (fun z => by unfold mayR at z; omega) (Ev.now _))
      refine Ev.ite (fun q6 => ?_) (fun q6 => no (by omega) (fun z => by unfold mayR at z; omega) (Ev.now _))
      exact yes (by omega) ⟨by unfold mayR; omega, hb.mp q0⟩ (Ev.now _)
    · rw [if_neg (by omega)]; exact Ev.now _
  refine Ev.ite (fun h => j _ ?_) (fun h => j _ ?_)
  · rw [decide_eq_true_iff]; exact ⟨fun q => ⟨by omega, q⟩, fun q => q.2⟩
  · exact ⟨fun q => (by cases q), fun q => (by unfold timeR at q; omega)⟩
def clkE (L : List (List Int)) (most sg : Int) : Int × Int := ((clkV L most sg).1, en (clkV L most sg).2)
theorem rj3_bad (most sg : Int) (L : List ByteArray) (h : Int) : Ev (fun k => horologeref16_ParseClock.j3 k most sg L h true) (0, 2) := by
  refine Ev.up ?_
  simp only [horologeref16_ParseClock.j3, if_true]
  exact Ev.now _
/-- At the end of the parts. -/
theorem rl0_end (sg : Int) (hsg : sg = 1 ∨ sg = -1) (L : List ByteArray) (h rest unit : Int) (b : Bool) (i : Nat) (hi : L.length ≤ i) (hh : 0 ≤ h ∧ h ≤ 999) (hr : 0 ≤ rest ∧ rest ≤ 100000) :
    Ev (fun k => horologeref16_ParseClock.l0 k sg L h rest b unit i) (if b = true then (0, 1) else (sg * (h * 3600 + rest), 0)) := by
  refine Ev.up ?_
  simp only [horologeref16_ParseClock.l0]
  refine Ev.neg (by omega) ?_
  rw [show wrap64 (h * 3600) = h * 3600 from wr (by omega), show wrap64 (h * 3600 + rest) = h * 3600 + rest from wr (by omega), show wrap64 (sg * (h * 3600 + rest)) = sg * (h * 3600 + rest) by rcases hsg with e | e <;> (rw [e, wr (by omega)])]
  cases b with
  | true => exact Ev.pos rfl (Ev.now _)
  | false => exact Ev.neg (by decide) (Ev.now _)
theorem rl0_step (sg : Int) (L : List (List Int)) (h rest unit : Int) (b : Bool) (i : Nat) (hi : i < L.length) (hlen : L.length ≤ 100000) (hb : Byt L[i]) (hl : L[i].length ≤ 100000) (hu : 0 ≤ unit ∧ unit ≤ 60) (hr : 0 ≤ rest ∧ rest ≤ 100000) {r : Int × Int}
    (hbad : ¬ numOk L[i] 2 2 → r = (0, 2)) (hgo : numOk L[i] 2 2 → Ev (fun k => horologeref16_ParseClock.l0 k sg (L.map strOfNums) h (rest + numV L[i] * unit) (b || decide (numV L[i] > 59)) 1 ((i + 1 : Nat) : Int)) r) :
    Ev (fun k => horologeref16_ParseClock.l0 k sg (L.map strOfNums) h rest b unit i) r := by
  refine Ev.up ?_
  simp only [horologeref16_ParseClock.l0]
  have hrd : rdOf ByteArray.empty (L.map strOfNums) (i : Int) = strOfNums L[i] := by
    unfold rdOf
    simp [List.getD_eq_getElem?_getD, hi]
  rw [hrd, show wrap64 ((i : Int) + 1) = ((i + 1 : Nat) : Int) by rw [wr (by omega)]; rfl]
  refine Ev.pos (by rw [List.length_map]; omega) (Ev.pos (by omega) (Ev.bind (rnum_is L[i] hb hl 2 2 (by decide)) ?_))
  by_cases o : numOk L[i] 2 2
  · rw [if_pos o]
    obtain ⟨n0, _, n1⟩ := numOk_bd o
    have n1 := n1 rfl
    have hgo := hgo o
    have hw : numV L[i] * unit ≤ 99 * 60 ∧ 0 ≤ numV L[i] * unit := by
      constructor
      · exact Int.mul_le_mul n1 hu.2 hu.1 (by decide)
      · exact Int.mul_nonneg n0 hu.1
    simp only [if_true]
    rw [show wrap64 (numV L[i] * unit) = numV L[i] * unit from wr (by omega), show wrap64 (rest + numV L[i] * unit) = rest + numV L[i] * unit from wr (by omega)]
    cases b with
    | true => exact Ev.pos rfl (by simpa using hgo)
    | false => exact Ev.neg (by decide) (by simpa using hgo)
  · rw [if_neg o, hbad o]
    exact Ev.neg (by simp) (Ev.now _)
theorem rj2_clk (t : List Int) (hb : Byt t) (hl : t.length ≤ 1000) (most sg : Int) (hsg : sg = 1 ∨ sg = -1) : Ev (fun k => horologeref16_ParseClock.j2 k (strOfNums t) most sg) (clkE (spl 58 t) most sg) := by
  refine Ev.up ?_
  simp only [horologeref16_ParseClock.j2]
  refine Ev.bind (rparts_is t hb 58 (by omega)) ?_
  -- every part is of bytes, and short
  have parts : ∀ (t : List Int), Byt t → ∀ p ∈ spl 58 t, Byt p ∧ p.length ≤ t.length := by
    intro t
    induction t with
    | nil => intro hb p hp; simp [spl] at hp; subst hp; exact ⟨fun x hx => (by cases hx), Nat.le_refl _⟩
    | cons x t ih =>
      intro hb p hp
      obtain ⟨a, r, ha⟩ := spl_some 58 t
      rw [spl_at, ha] at hp
      have ih := ih hb.tail
      rw [ha] at ih
      split at hp
      · rcases List.mem_cons.mp hp with e | hp
        · subst e; exact ⟨fun x hx => (by cases hx), Nat.zero_le _⟩
        · obtain ⟨q1, q2⟩ := ih p hp
          exact ⟨q1, by rw [List.length_cons]; omega⟩
      · rcases List.mem_cons.mp hp with e | hp
        · subst e
          obtain ⟨q1, q2⟩ := ih a (List.mem_cons_self ..)
          refine ⟨fun y hy => ?_, by rw [List.length_cons, List.length_cons]; omega⟩
          rcases List.mem_cons.mp hy with e | hy
          · rw [e]; exact hb.head
          · exact q1 y hy
        · obtain ⟨q1, q2⟩ := ih p (List.mem_cons_of_mem _ hp)
          exact ⟨q1, by rw [List.length_cons]; omega⟩
  have many : ∀ (t : List Int), (spl 58 t).length ≤ t.length + 1 := by
    intro t
    induction t with
    | nil => simp [spl]
    | cons x t ih =>
      obtain ⟨a, r, ha⟩ := spl_some 58 t
      rw [spl_at, ha]
      rw [ha] at ih
      split
      · simp at ih ⊢; omega
      · simp at ih ⊢; omega
  have hp := parts t hb
  have hm := many t
  generalize hL : spl 58 t = L at *
  obtain ⟨H, R, hHR⟩ := spl_some 58 t
  rw [hL] at hHR
  subst hHR
  have hH := hp H (List.mem_cons_self ..)
  have hrd : rdOf ByteArray.empty ((H :: R).map strOfNums) 0 = strOfNums H := rfl
  rw [hrd]
  refine Ev.pos (by simp) (Ev.bind (rnum_is H hH.1 (by omega) 1 3 (by decide)) ?_)
  unfold clkE
  by_cases o : numOk H 1 3
  · obtain ⟨n0, n1, _⟩ := numOk_bd o
    have n1 := n1 rfl
    rw [if_pos o]
    refine Ev.pos rfl ?_
    simp only [List.length_map, List.length_cons]
    by_cases g3 : 3 < R.length + 1
    · rw [decide_eq_true (by omega)]
      have e : clkV (H :: R) most sg = (0, some 2) := by
        match R, g3 with
        | M :: Q :: P :: R, _ => rfl
      rw [e]
      exact rj3_bad _ _ _ _
    · rw [decide_eq_false (by omega)]
      refine Ev.up ?_
      simp only [horologeref16_ParseClock.j3, Bool.false_eq_true, if_false]
      match R, g3, hp, hm with
      | [], _, hp, hm =>
        have := rl0_end sg hsg ([H].map strOfNums) (numV H) 0 60 (decide (numV H > most)) 1 (by simp) ⟨n0, n1⟩ (by decide)
        refine Ev.cast this ?_
        unfold clkV
        simp only
        rw [if_pos (show numOk H 1 3 from o)]
        by_cases g : numV H > most
        · rw [if_pos (decide_eq_true g), if_pos g]; rfl
        · rw [if_neg (by simpa using g), if_neg g]; simp [en]
      | [M], _, hp, hm =>
        have hM := hp M (by simp)
        refine rl0_step sg [H, M] (numV H) 0 60 (decide (numV H > most)) 1 (by simp) (by simp) hM.1 (by show M.length ≤ 100000; omega) (by decide) (by decide) ?_ ?_
        · intro z
          have z : ¬ numOk M 2 2 := z
          rw [clk_bad1 _ _ _ _ _ z]; rfl
        · intro z
          have z : numOk M 2 2 := z
          obtain ⟨m0, _, m1⟩ := numOk_bd z
          have m1 := m1 rfl
          have := rl0_end sg hsg ([H, M].map strOfNums) (numV H) (0 + numV M * 60) 1 (decide (numV H > most) || decide (numV M > 59)) 2 (by simp) ⟨n0, n1⟩ (by omega)
          refine Ev.cast this ?_
          unfold clkV
          simp only
          rw [if_pos (show numOk H 1 3 ∧ numOk M 2 2 from ⟨o, z⟩)]
          by_cases g : numV H > most ∨ numV M > 59
          · rw [if_pos (show (decide (numV H > most) || decide (numV M > 59)) = true by simpa using g), if_pos g]; rfl
          · rw [if_neg (show ¬ (decide (numV H > most) || decide (numV M > 59)) = true by simpa using g), if_neg g]; simp [en]
      | [M, P], _, hp, hm =>
        have hM := hp M (by simp)
        have hP := hp P (by simp)
        refine rl0_step sg [H, M, P] (numV H) 0 60 (decide (numV H > most)) 1 (by simp) (by simp) hM.1 (by show M.length ≤ 100000; omega) (by decide) (by decide) ?_ ?_
        · intro z
          have z : ¬ numOk M 2 2 := z
          rw [clk_bad1 _ _ _ _ _ z]; rfl
        · intro z
          have z : numOk M 2 2 := z
          obtain ⟨m0, _, m1⟩ := numOk_bd z
          have m1 := m1 rfl
          refine rl0_step sg [H, M, P] (numV H) (0 + numV M * 60) 1 (decide (numV H > most) || decide (numV M > 59)) 2 (by simp) (by simp) hP.1 (by show P.length ≤ 100000; omega) (by decide) (by omega) ?_ ?_
          · intro z2
            have z2 : ¬ numOk P 2 2 := z2
            rw [clk_bad2 _ _ _ _ _ _ z2]; rfl
          · intro z2
            have z2 : numOk P 2 2 := z2
            obtain ⟨p0, _, p1⟩ := numOk_bd z2
            have p1 := p1 rfl
            have := rl0_end sg hsg ([H, M, P].map strOfNums) (numV H) (0 + numV M * 60 + numV P * 1) 1 (decide (numV H > most) || decide (numV M > 59) || decide (numV P > 59)) 3 (by simp) ⟨n0, n1⟩ (by omega)
            refine Ev.cast this ?_
            unfold clkV
            simp only
            rw [if_pos (show numOk H 1 3 ∧ numOk M 2 2 ∧ numOk P 2 2 from ⟨o, z, z2⟩)]
            by_cases g : numV H > most ∨ numV M > 59 ∨ numV P > 59
            · rw [if_pos (show (decide (numV H > most) || decide (numV M > 59) || decide (numV P > 59)) = true by simpa [or_assoc] using g), if_pos g]; rfl
            · rw [if_neg (show ¬ (decide (numV H > most) || decide (numV M > 59) || decide (numV P > 59)) = true by simpa [or_assoc, and_assoc] using g), if_neg g]; simp [en, Int.add_assoc]
      | M :: P :: Q :: R, g3, hp, hm => exact absurd (by simp only [List.length_cons]; omega) g3
  · rw [if_neg o, clk_bad0 _ _ _ _ o]
    exact Ev.neg (by simp) (rj3_bad _ _ _ _)
theorem rparseclock_is (l : List Int) (hb : Byt l) (hl : l.length ≤ 1000) (most : Int) : Ev (fun k => horologeref16_ParseClock.f k (strOfNums l) most) ((clockP l most).1, en (clockP l most).2) := by
  unfold horologeref16_ParseClock.f clockP
  have bad : ¬ (0 ≤ most ∧ most ≤ 999) → Ev (fun k => horologeref16_ParseClock.j0 k (strOfNums l) most true) ((if 0 ≤ most ∧ most ≤ 999 then clkV (spl 58 (l.drop (siV l))) most (sgV l) else (0, some 1) : Int × Option Int).1, en (if 0 ≤ most ∧ most ≤ 999 then clkV (spl 58 (l.drop (siV l))) most (sgV l) else (0, some 1) : Int × Option Int).2) := by
    intro h
    rw [if_neg h]
    refine Ev.up ?_
    simp only [horologeref16_ParseClock.j0, if_true]
    exact Ev.now _
  refine Ev.ite (fun q => bad (by omega)) (fun q1 => ?_)
  by_cases q2 : most > 999
  · rw [decide_eq_true q2]; exact bad (by omega)
  · rw [decide_eq_false q2, if_pos (by omega)]
    refine Ev.up ?_
    simp only [horologeref16_ParseClock.j0, Bool.false_eq_true, if_false]
    rw [son_size]
    cases l with
    | nil =>
      refine Ev.neg (by simp) (Ev.up ?_)
      simp only [horologeref16_ParseClock.j1, Bool.false_eq_true, if_false]
      exact rj2_clk [] hb (by simp) most 1 (Or.inl rfl)
    | cons x t =>
      have b0 : bt (strOfNums (x :: t)) 0 = x := bt_at_son hb (i := 0) (by simp)
      have hd : (x :: t).headD 0 = x := rfl
      rw [b0]
      unfold sgV siV
      rw [hd]
      have hcut : (strOfNums (x :: t)).extract 1 (strOfNums (x :: t)).size = strOfNums t := son_cut (x :: t) 1
      have ht : t.length ≤ 1000 := by rw [List.length_cons] at hl; omega
      have hsz : (strOfNums (x :: t)).size = t.length + 1 := by rw [son_size, List.length_cons]
      refine Ev.pos (by rw [List.length_cons]; omega) (Ev.pos (by rw [List.length_cons]; omega) (Ev.ite (fun h43 => ?_) (fun h43 => ?_)))
      · rw [if_neg (show ¬ x = 45 by omega), if_pos (Or.inr h43)]
        refine Ev.up ?_
        simp only [horologeref16_ParseClock.j1, if_true]
        rw [b0, hcut]
        refine Ev.pos (by omega) (Ev.neg (by omega) (Ev.pos (by omega) ?_))
        exact rj2_clk t hb.tail ht most 1 (Or.inl rfl)
      · by_cases h45 : x = 45
        · rw [if_pos h45, if_pos (Or.inl h45), show (x == 45) = true from beq_iff_eq.mpr h45]
          refine Ev.up ?_
          simp only [horologeref16_ParseClock.j1, if_true]
          rw [b0, hcut]
          refine Ev.pos (by omega) (Ev.pos h45 (Ev.pos (by omega) ?_))
          exact rj2_clk t hb.tail ht most (-1) (Or.inr rfl)
        · rw [if_neg h45, if_neg (fun q => q.elim h45 h43), show (x == 45) = false from beq_eq_false_iff_ne.mpr h45]
          refine Ev.up ?_
          simp only [horologeref16_ParseClock.j1, Bool.false_eq_true, if_false]
          exact rj2_clk (x :: t) hb hl most 1 (Or.inl rfl)
theorem byt_append {a b : List Int} (ha : Byt a) (hb : Byt b) : Byt (a ++ b) := fun x hx => (List.mem_append.mp hx).elim (ha x) (hb x)
theorem bytesOf_son {l : List Int} (h : Byt l) : bytesOf (strOfNums l) = l := son_inj (byt_of _) h (by rw [son_of])
theorem wtext_is (l s : List Int) (hs : Byt s) (h : l.length + s.length ≤ 100000) : wtext l (strOfNums s) = some (l ++ s) := by
  unfold wtext
  rw [if_pos (by rw [son_size]; omega), bytesOf_son hs]
theorem rawV_byt (n w : Nat) : Byt (rawV n w) := fun x hx => by have := rawV_figs n w x hx; omega
theorem rawV_short (n w : Nat) (hn : n < 18446744073709551616) (hw : w ≤ 20) : (rawV n w).length ≤ 20 := by
  have := digs_len n 20 (by have : (10 : Nat) ^ 20 = 100000000000000000000 := by decide
                            omega)
  rw [rawV_len]; omega
theorem wput_is (l : List Int) (er : Option Int) (n w : Int) (hn : 0 ≤ n ∧ n ≤ 9223372036854775807) (hw : 0 ≤ w ∧ w ≤ 20) (hl : l.length ≤ 90000) : Ev (fun k => wput k l er n w) (l ++ rawV n.toNat w.toNat, er) := by
  unfold wput
  have e : putV n w.toNat = rawV n.toNat w.toNat := by unfold putV; rw [if_neg (by omega)]
  have p := put_is n w (by unfold I64; omega) hw
  rw [e] at p
  have s := rawV_short n.toNat w.toNat (by omega) (by omega)
  refine Ev.bind p (Ev.bindc (wtext_is l _ (rawV_byt _ _) (by omega)) ?_)
  exact Ev.now _
/-- The text of seconds that are not below 0. -/
def clock0 (t : Nat) : List Int := rawV (t / 3600) 1 ++ (if t % 3600 = 0 then [] else 58 :: (rawV (t % 3600 / 60) 2 ++ (if t % 60 = 0 then [] else 58 :: rawV (t % 60) 2)))
def clockT (t : Int) : List Int := (if t < 0 then [45] else []) ++ clock0 t.natAbs
theorem clock0_short (t : Nat) (h : t ≤ 100000000) : (clock0 t).length ≤ 70 ∧ Byt (clock0 t) := by
  have a := rawV_short (t / 3600) 1 (by omega) (by decide)
  have b := rawV_short (t % 3600 / 60) 2 (by omega) (by decide)
  have c := rawV_short (t % 60) 2 (by omega) (by decide)
  have ba := rawV_byt (t / 3600) 1
  have bb := rawV_byt (t % 3600 / 60) 2
  have bc := rawV_byt (t % 60) 2
  unfold clock0
  constructor
  · split
    · simp; omega
    · split
      · simp; omega
      · simp; omega
  · refine byt_append ba ?_
    split
    · intro x hx; cases hx
    · intro x hx
      rcases List.mem_cons.mp hx with e | hx
      · omega
      · rcases List.mem_append.mp hx with hx | hx
        · exact bb x hx
        · split at hx
          · cases hx
          · rcases List.mem_cons.mp hx with e | hx
            · omega
            · exact bc x hx
theorem raw01 (n : Nat) : rawV n 0 = rawV n 1 := rfl
theorem wrest_is (l : List Int) (er : Option Int) (t : Nat) (ht : t ≤ 100000000) (hl : l.length ≤ 1000) : Ev (fun k => wrest k (l, er) t) (l ++ (if t % 3600 = 0 then [] else 58 :: (rawV (t % 3600 / 60) 2 ++ (if t % 60 = 0 then [] else 58 :: rawV (t % 60) 2))), er) := by
  unfold wrest
  have m1 : Int.tmod (t : Int) 3600 = ((t % 3600 : Nat) : Int) := by rw [tmod_is, if_neg (by omega)]; omega
  have m2 : Int.tmod (t : Int) 60 = ((t % 60 : Nat) : Int) := by rw [tmod_is, if_neg (by omega)]; omega
  have q1 : wrap64 (Int.tdiv (((t % 3600 : Nat) : Int)) 60) = ((t % 3600 / 60 : Nat) : Int) := by rw [tdiv_is, if_neg (by omega), wr (by omega)]; omega
  rw [m1, m2, q1]
  refine Ev.ite (fun h => ?_) (fun h => ?_)
  · rw [if_pos (by omega), List.append_nil]; exact Ev.now _
  · rw [if_neg (by omega)]
    have s1 := rawV_short (t % 3600 / 60) 2 (by omega) (by decide)
    have c1 := wtext_is l [58] (by unfold Byt; decide) (by simp; omega)
    have p1 := wput_is (l ++ [58]) er (((t % 3600 / 60 : Nat) : Int)) 2 (by omega) (by decide) (by simp; omega)
    rw [Int.toNat_natCast] at p1
    refine Ev.bindc (show wtext l ⟨#[58]⟩ = some (l ++ [58]) from c1) (Ev.bind p1 (Ev.ite (fun g => ?_) (fun g => ?_)))
    · rw [if_pos (by omega)]
      exact Ev.cast (Ev.now _) (by simp)
    · rw [if_neg (by omega)]
      have hlen : (l ++ [58] ++ rawV (t % 3600 / 60) (2 : Int).toNat).length ≤ 1100 := by
        simp only [List.length_append, List.length_cons, List.length_nil]
        have : (rawV (t % 3600 / 60) (2 : Int).toNat).length ≤ 20 := s1
        omega
      have c2 := wtext_is (l ++ [58] ++ rawV (t % 3600 / 60) (2 : Int).toNat) [58] (by unfold Byt; decide) (by simp only [List.length_cons, List.length_nil]; omega)
      have p2 := wput_is (l ++ [58] ++ rawV (t % 3600 / 60) (2 : Int).toNat ++ [58]) er (((t % 60 : Nat) : Int)) 2 (by omega) (by decide) (by rw [List.length_append]; simp only [List.length_cons, List.length_nil]; omega)
      rw [Int.toNat_natCast] at p2
      refine Ev.bindc (show wtext _ ⟨#[58]⟩ = some _ from c2) (Ev.cast p2 ?_)
      simp
theorem wclock_is (l : List Int) (er : Option Int) (t : Int) (ht : -100000000 ≤ t ∧ t ≤ 100000000) (hl : l.length ≤ 500) : Ev (fun k => wclock k l er t) (l ++ clockT t, er) := by
  unfold wclock
  have sgn : wsign l t = some (l ++ (if t < 0 then [45] else []), ((t.natAbs : Nat) : Int)) := by
    unfold wsign
    by_cases h : t < 0
    · rw [if_pos h, if_pos h, show wtext l ⟨#[45]⟩ = some (l ++ [45]) from wtext_is l [45] (by unfold Byt; decide) (by simp; omega)]
      simp only [Option.bind_some]
      rw [wr (by omega), show -t = ((t.natAbs : Nat) : Int) by omega]
    · rw [if_neg h, if_neg h, List.append_nil, show t = ((t.natAbs : Nat) : Int) by omega]
      simp
  have hl2 : (l ++ (if t < 0 then [45] else [])).length ≤ 501 := by rw [List.length_append]; split <;> simp <;> omega
  refine Ev.bindc sgn ?_
  simp only []
  have hc : t.natAbs ≤ 100000000 := by omega
  generalize hN : t.natAbs = n at *
  generalize hS : (l ++ (if t < 0 then [45] else [])) = M at *
  have q : wrap64 (Int.tdiv (n : Int) 3600) = ((n / 3600 : Nat) : Int) := by rw [tdiv_is, if_neg (by omega), wr (by omega)]; omega
  rw [q]
  have p := wput_is M er (((n / 3600 : Nat) : Int)) 0 (by omega) (by decide) (by omega)
  rw [Int.toNat_natCast] at p
  have s := rawV_short (n / 3600) 0 (by omega) (by decide)
  have r := wrest_is (M ++ rawV (n / 3600) (0 : Int).toNat) er n hc (by rw [List.length_append]; have : (rawV (n / 3600) (0 : Int).toNat).length ≤ 20 := s; omega)
  refine Ev.bind p (Ev.cast r ?_)
  unfold clockT
  rw [hN, ← List.append_assoc, hS, List.append_assoc]
  rfl
theorem rclock_j0 (t : Nat) (s : List Int) (ht : t ≤ 100000000) (hs : s.length ≤ 10) : Ev (fun k => horologeref16_Clock.j0 k (t : Int) (strOfNums s)) (strOfNums (s ++ clock0 t)) := by
  have m1 : Int.tmod (t : Int) 3600 = ((t % 3600 : Nat) : Int) := by rw [tmod_is, if_neg (by omega)]; omega
  have m2 : Int.tmod (t : Int) 60 = ((t % 60 : Nat) : Int) := by rw [tmod_is, if_neg (by omega)]; omega
  have q0 : wrap64 (Int.tdiv (t : Int) 3600) = ((t / 3600 : Nat) : Int) := by rw [tdiv_is, if_neg (by omega), wr (by omega)]; omega
  have q1 : Int.tmod (wrap64 (Int.tdiv (t : Int) 60)) 60 = ((t % 3600 / 60 : Nat) : Int) := by rw [tdiv_is, if_neg (by omega), wr (by omega), tmod_is, if_neg (by omega)]; omega
  have a := rawV_short (t / 3600) 1 (by omega) (by decide)
  have b := rawV_short (t % 3600 / 60) 2 (by omega) (by decide)
  have c := rawV_short (t % 60) 2 (by omega) (by decide)
  have r1 := rraw_is (t / 3600) 1 (by omega) (by decide)
  have r2 := rraw_is (t % 3600 / 60) 2 (by omega) (by decide)
  have r3 := rraw_is (t % 60) 2 (by omega) (by decide)
  refine Ev.up ?_
  simp only [horologeref16_Clock.j0, m1, m2, q0, q1]
  unfold clock0
  refine Ev.bind r1 (Ev.pos (by rw [son_size, son_size]; have : (rawV (t / 3600) (1 : Int).toNat).length ≤ 20 := a; omega) ?_)
  have e58 : (⟨#[58]⟩ : ByteArray) = strOfNums [58] := rfl
  simp only [e58, son_append, son_size]
  have a' : (rawV (t / 3600) (1 : Int).toNat).length ≤ 20 := a
  have b' : (rawV (t % 3600 / 60) (2 : Int).toNat).length ≤ 20 := b
  have c' : (rawV (t % 60) (2 : Int).toNat).length ≤ 20 := c
  refine Ev.ite (fun h => ?_) (fun h => ?_)
  · refine Ev.pos (by omega) ?_
    rw [if_pos (show t % 3600 = 0 by omega), List.append_nil]; exact Ev.now _
  · rw [if_neg (show ¬ t % 3600 = 0 by omega)]
    refine Ev.bind r2 ?_
    simp only [son_append, son_size]
    refine Ev.pos (by omega) (Ev.pos (by omega) (Ev.ite (fun g => ?_) (fun g => Ev.bind r3 ?_)))
    · rw [if_pos (show t % 60 = 0 by omega)]
      exact Ev.cast (Ev.now _) (by simp)
    · rw [if_neg (show ¬ t % 60 = 0 by omega)]
      simp only [son_append, son_size]
      exact Ev.pos (by omega) (Ev.pos (by omega) (Ev.cast (Ev.now _) (by simp)))
theorem rclock_is (t : Int) (ht : -100000000 ≤ t ∧ t ≤ 100000000) : Ev (fun k => horologeref16_Clock.f k t) (strOfNums (clockT t)) := by
  unfold horologeref16_Clock.f clockT
  refine Ev.ite (fun h => ?_) (fun h => ?_)
  · rw [if_pos h, show wrap64 (-t) = ((t.natAbs : Nat) : Int) by rw [wr (by omega)]; omega]
    exact rclock_j0 t.natAbs [45] (by omega) (by simp)
  · rw [if_neg h]
    have := rclock_j0 t.natAbs [] (by omega) (by simp)
    rw [show ((t.natAbs : Nat) : Int) = t by omega] at this
    exact this
theorem small_pt (x : Int) (h : 0 ≤ x ∧ x ≤ 255) : ∃ y, scan_small.f x = some y ∧ (y = 46 ↔ x = 46) := by
  unfold scan_small.f
  by_cases h1 : x ≥ 65
  · rw [if_pos h1]
    by_cases h2 : x ≤ 90
    · rw [if_pos h2]; exact ⟨_, rfl, by omega⟩
    · rw [if_neg h2]; exact ⟨_, rfl, by omega⟩
  · rw [if_neg h1]; exact ⟨_, rfl, by omega⟩
theorem alike_pt (x : Int) (h : 0 ≤ x ∧ x ≤ 255) : Ev (fun k => scan_alike.f k (strOfNums [x]) (strOfNums [46])) (decide (x = 46)) := by
  unfold scan_alike.f
  have b1 : bt (strOfNums [x]) 0 = x := bt_at_son (l := [x]) (i := 0) (fun y hy => by simp at hy; omega) (by simp)
  have b2 : bt (strOfNums [46]) 0 = 46 := rfl
  obtain ⟨y, hy, he⟩ := small_pt x h
  refine Ev.up ?_
  simp only [scan_alike.l0, son_size, b1, b2]
  refine Ev.pos (by simp) (Ev.pos (by decide) (Ev.pos (by simp) (Ev.bindc hy (Ev.pos (by simp) (Ev.bindc (show scan_small.f 46 = some 46 from rfl) ?_)))))
  by_cases hx : x = 46
  · rw [decide_eq_true hx]
    refine Ev.pos (he.mpr hx) (Ev.up ?_)
    simp only [scan_alike.l0]
    exact Ev.neg (by simp [wrap64]) (Ev.now _)
  · rw [decide_eq_false hx]
    exact Ev.neg (fun q => hx (he.mp q)) (Ev.now _)
theorem sFold_pt (l : List Int) (hb : Byt l) (i : Nat) (e : Option Int) (hi : i ≤ l.length) (hl : l.length ≤ 100000) :
    Ev (fun k => scan_Scanner_string_Fold.f k (strOfNums l) i e (strOfNums [46])) (comesV (leftV l i e) 46, strOfNums l, (if comesV (leftV l i e) 46 = true then ((i + 1 : Nat) : Int) else (i : Int)), e) := by
  unfold scan_Scanner_string_Fold.f
  refine Ev.bindc (srest_is l i e hi) (Ev.bindc (sgoing_is _ _ _) ?_)
  simp only []
  cases e with
  | some c => exact Ev.neg (by simp) (Ev.now _)
  | none =>
    refine Ev.pos rfl ?_
    have ht := fun h => stake_is l i none 1 hi (by omega) h
    have hbr := leftV_byt hb i none
    generalize leftV l i none = r at *
    rw [son_size, son_size]
    cases r with
    | nil => exact Ev.pos (by simp) (Ev.now _)
    | cons x r =>
      have hx := hbr.head
      have e1 : (strOfNums (x :: r)).extract 0 ((([46] : List Int).length : Int)).toNat = strOfNums [x] := son_first (x :: r) 1
      have c1 : comesV (x :: r) 46 = decide (x = 46) := by unfold comesV; rw [List.head?_cons, Bool.eq_iff_iff]; simp
      refine Ev.neg (by simp only [List.length_cons, List.length_nil]; omega) (Ev.pos (by simp) (Ev.pos (by simp only [List.length_cons, List.length_nil]; omega) ?_))
      rw [e1, c1]
      refine Ev.bind (alike_pt x hx) ?_
      by_cases h : x = 46
      · rw [decide_eq_true h]
        refine Ev.pos rfl (Ev.bindc (show scan_Scanner_string_take.f (strOfNums l) (↑i) none (([46] : List Int).length : Int) = _ from ht (by simp)) (Ev.now _))
      · rw [decide_eq_false h]
        exact Ev.neg (by decide) (Ev.now _)
theorem sMust_yes (l : List Int) (hb : Byt l) (i : Nat) (hi : i ≤ l.length) (hl : l.length ≤ 100000) (h : comesV (leftV l i none) 46 = true) :
    Ev (fun k => scan_Scanner_string_Must.f k (strOfNums l) i none (⟨#[46]⟩ : ByteArray)) (strOfNums l, ((i + 1 : Nat) : Int), none) := by
  unfold scan_Scanner_string_Must.f
  have f := sFold_pt l hb i none hi hl
  rw [h] at f
  exact Ev.bind f (Ev.pos rfl (Ev.now _))
theorem sMust_no (l : List Int) (hb : Byt l) (i : Nat) (e : Option Int) (hi : i ≤ l.length) (hl : l.length ≤ 100000) (h : comesV (leftV l i e) 46 = false) :
    ∃ c, Ev (fun k => scan_Scanner_string_Must.f k (strOfNums l) i e (⟨#[46]⟩ : ByteArray)) (strOfNums l, (i : Int), some c) := by
  unfold scan_Scanner_string_Must.f scan_Scanner_string_Fail.f
  have f := sFold_pt l hb i e hi hl
  rw [h] at f
  cases e with
  | none => exact ⟨2, Ev.bind f (Ev.neg (by simp) (Ev.bindc (a := (strOfNums l, (i : Int), some 2)) rfl (Ev.now _)))⟩
  | some c => exact ⟨c, Ev.bind f (Ev.neg (by simp) (Ev.bindc (a := (strOfNums l, (i : Int), some c)) rfl (Ev.now _)))⟩
/-- A rule's text, cut at the stroke: the day's, the time's, is there one. -/
def dateS (l : List Int) : List Int := tw 47 l
def timed (l : List Int) : Prop := (tw 47 l).length ≠ l.length
instance (l : List Int) : Decidable (timed l) := inferInstanceAs (Decidable (¬ _))
def timeS (l : List Int) : List Int := l.drop ((tw 47 l).length + 1)
theorem tw_take2 (c : Int) (l : List Int) : l.take (tw c l).length = tw c l := tw_take l
theorem cut_is (l : List Int) (hb : Byt l) (hl : l.length ≤ 100000) : strings_Cut.f (strOfNums l) (⟨#[47]⟩ : ByteArray) = some (strOfNums (dateS l), (if timed l then strOfNums (timeS l) else (⟨#[]⟩ : ByteArray)), decide (timed l)) := by
  have hle := tw_le 47 l
  have ix : idxb (strOfNums l) 47 = if (tw 47 l).length < l.length then ((tw 47 l).length : Int) else -1 := by
    unfold idxb
    exact idx_is l hb 47 (by decide)
  unfold strings_Cut.f stringslite_Cut.f stringslite_Index.f
  rw [if_pos (show (⟨#[47]⟩ : ByteArray).size = 1 from rfl), show bt (⟨#[47]⟩ : ByteArray) 0 = 47 from rfl, ix]
  simp only [Option.bind_some, son_size]
  have htm : timed l ↔ (tw 47 l).length < l.length := ⟨fun q => by unfold timed at q; omega, fun q => by unfold timed; omega⟩
  by_cases h : (tw 47 l).length < l.length
  · rw [if_pos h]
    have w : wrap64 (((tw 47 l).length : Int) + (((⟨#[47]⟩ : ByteArray).size : Nat) : Int)) = (((tw 47 l).length + 1 : Nat) : Int) := by rw [show (⟨#[47]⟩ : ByteArray).size = 1 from rfl, wr (by omega)]; rfl
    rw [w, if_pos (by omega), if_pos (by omega), if_pos (by omega), if_pos (by omega), if_pos (by omega), Int.toNat_natCast, Int.toNat_natCast, son_first, son_extract, List.take_of_length_le (l := l.drop ((tw 47 l).length + 1)) (by rw [List.length_drop]; omega), tw_take2, if_pos (htm.mpr h), decide_eq_true (htm.mpr h)]
    rfl
  · rw [if_neg h, if_neg (by omega), if_neg (fun q => h (htm.mp q)), decide_eq_false (fun q => h (htm.mp q))]
    have e : dateS l = l := by
      have := tw_take2 47 l
      rw [List.take_of_length_le (by omega)] at this
      exact this.symm
    rw [e]; rfl
/-- What a day's text says: the rule's kind, month, week and day. -/
def dateP (d : List Int) : Option (Int × Int × Int × Int) :=
  if d.headD 0 = 74 then (if numOk (d.drop 1) 1 3 then some (1, 0, 0, numV (d.drop 1)) else none)
  else if d.headD 0 = 77 then (match spl 46 (d.drop 1) with
    | [A, B, C] => if numOk A 1 2 ∧ numOk B 1 1 ∧ numOk C 1 1 then some (3, numV A, numV B, numV C) else none
    | _ => none)
  else if numOk d 1 3 then some (2, 0, 0, numV d) else none
def ruleC (k m w d t : Int) : Int × Int × Int × Int × Int × Option Int := match chkV k m w d t with | none => (k, m, w, d, t, none) | some c => (0, 0, 0, 0, 0, some c)
def ruleP (l : List Int) : Int × Int × Int × Int × Int × Option Int := match dateP (dateS l) with
  | none => (0, 0, 0, 0, 0, some 2)
  | some (k, m, w, d) => if timed l then (match clockP (timeS l) 167 with | (t, none) => ruleC k m w d t | (_, some e) => (0, 0, 0, 0, 0, some e)) else ruleC k m w d 7200
theorem ruleC_err (k m w d t : Int) : (ruleC k m w d t).2.2.2.2.2 ≠ some 0 := by
  unfold ruleC
  have := chkV_err k m w d t
  cases h : chkV k m w d t with
  | none => simp
  | some c => rw [h] at this; exact this
theorem ruleP_err (l : List Int) : (ruleP l).2.2.2.2.2 ≠ some 0 := by
  unfold ruleP
  cases dateP (dateS l) with
  | none => simp
  | some q =>
    obtain ⟨k, m, w, d⟩ := q
    simp only
    by_cases h : timed l
    · rw [if_pos h]
      have := clockP_err (timeS l) 167
      rcases hq : clockP (timeS l) 167 with ⟨t, e⟩
      rw [hq] at this
      cases e with
      | none => exact ruleC_err _ _ _ _ _
      | some e => exact this
    · rw [if_neg h]; exact ruleC_err _ _ _ _ _
theorem tw_none {c : Int} {t : List Int} (h : ∀ x ∈ t, x ≠ c) : tw c t = t := by
  unfold tw
  apply tw_all
  intro x hx
  simpa using h x hx
/-- A number that is all of what is left. -/
theorem whole_ok (l : List Int) (hb : Byt l) (i : Nat) (hi : i ≤ l.length) (least most : Int) (h1 : 1 ≤ least) (h2 : least ≤ most) (h3 : most ≤ 18) (h : numOk (l.drop i) least most) :
    sfigV l i none least most = (numV (l.drop i), (l.length : Int), none) := by
  have e : tw (-1) (l.drop i) = l.drop i := tw_none (fun x hx => by have := hb.drop i x hx; omega)
  have := fld_ok l hb i (-1) (by decide) least most h1 h2 h3 (by rw [e]; exact h)
  rw [e, List.length_drop, show i + (l.length - i) = l.length by omega] at this
  exact this
theorem whole_no (l : List Int) (hb : Byt l) (i : Nat) (hi : i ≤ l.length) (least most : Int) (h1 : 1 ≤ least) (h2 : least ≤ most) (h3 : most ≤ 18) (h : ¬ numOk (l.drop i) least most) :
    ∃ (n : Int) (j : Nat) (e : Option Int), sfigV l i none least most = (n, (j : Int), e) ∧ j ≤ l.length ∧ endV l j e ≠ none := by
  have e : tw (-1) (l.drop i) = l.drop i := tw_none (fun x hx => by have := hb.drop i x hx; omega)
  obtain ⟨n, j, q, a, b, c, _⟩ := fld_not l hb i hi (-1) (by decide) least most h1 h2 h3 (by rw [e]; exact h)
  exact ⟨n, j, q, a, b, c.2⟩
def zeroR (e : Int) : Int × Int × Int × Int × Int × Option Int := (0, 0, 0, 0, 0, some e)
theorem pr_bad (x5 : ByteArray) (x6 : Bool) (l : List Int) (j : Nat) (e : Option Int) (k m w d t : Int) (hj : j ≤ l.length) (h : endV l j e ≠ none) : Ev (fun n => rule_Parse.j0 n x5 x6 (strOfNums l) j e k m w d t) (zeroR 2) := by
  refine Ev.up ?_
  simp only [rule_Parse.j0]
  refine Ev.bindc (sEnd_is l j e hj) (Ev.neg ?_ (Ev.now _))
  intro q
  apply h
  cases hq : endV l j e with
  | none => rfl
  | some c => rw [hq] at q; cases q
theorem pr_chk (k m w d t : Int) : Ev (fun _ => (rule_Check.f k m w d t).bind fun t332 => if t332.isNone = true then some (k, m, w, d, t, none) else some (0, 0, 0, 0, 0, some (t332.getD 0))) (ruleC k m w d t) := by
  refine Ev.bindc (chk_is k m w d t) ?_
  unfold ruleC
  cases chkV k m w d t with
  | none => exact Ev.pos rfl (Ev.now _)
  | some c => exact Ev.neg (by simp) (Ev.now _)
theorem pr_end (whole l : List Int) (hw : Byt whole) (hwl : whole.length ≤ 1000) (k m w d t : Int) : Ev (fun n => rule_Parse.j0 n (if timed whole then strOfNums (timeS whole) else (⟨#[]⟩ : ByteArray)) (decide (timed whole)) (strOfNums l) (l.length : Int) none k m w d t)
    (if timed whole then (match clockP (timeS whole) 167 with | (t, none) => ruleC k m w d t | (_, some e) => zeroR e) else ruleC k m w d 7200) := by
  have he : endV l l.length none = none := by unfold endV; simp only; rw [if_neg (by omega)]
  have s := sEnd_is l l.length none (Nat.le_refl _)
  rw [he] at s
  refine Ev.up ?_
  simp only [rule_Parse.j0]
  refine Ev.bindc s (Ev.pos rfl ?_)
  by_cases h : timed whole
  · rw [if_pos h, if_pos h, decide_eq_true h]
    have hts : (timeS whole).length ≤ 1000 := by unfold timeS; rw [List.length_drop]; omega
    refine Ev.pos rfl (Ev.bind (parseclock_is (timeS whole) (hw.drop _) (by omega) 167) ?_)
    rcases clockP (timeS whole) 167 with ⟨t2, e⟩
    cases e with
    | none => exact Ev.pos rfl (pr_chk k m w d t2)
    | some e => exact Ev.neg (by simp) (Ev.now _)
  · rw [if_neg h, if_neg h, decide_eq_false h]
    exact Ev.neg (by decide) (pr_chk k m w d 7200)
/-- Behind an error nothing is read. -/
theorem fig_frozen (l : List Int) (hb : Byt l) (j : Nat) (c : Int) (a b : Int) (hj : j ≤ l.length) (hl : l.length ≤ 100000) : Ev (fun k => scan_Scanner_string_Figures.f k (strOfNums l) j (some c) a b) (0, strOfNums l, (j : Int), some c) := sFigures_is l hb j (some c) a b hj (by omega)
theorem must_frozen (l : List Int) (hb : Byt l) (j : Nat) (c : Int) (hj : j ≤ l.length) (hl : l.length ≤ 100000) : Ev (fun k => scan_Scanner_string_Must.f k (strOfNums l) j (some c) (⟨#[46]⟩ : ByteArray)) (strOfNums l, (j : Int), some c) := by
  unfold scan_Scanner_string_Must.f scan_Scanner_string_Fail.f
  have f := sFold_pt l hb j (some c) hj hl
  exact Ev.bind f (Ev.neg (by simp [leftV_some, comesV]) (Ev.bindc (a := (strOfNums l, (j : Int), some c)) rfl (Ev.now _)))
def wok (L : List (List Int)) : Option (Int × Int × Int × Int) := match L with
  | [A, B, C] => if numOk A 1 2 ∧ numOk B 1 1 ∧ numOk C 1 1 then some (3, numV A, numV B, numV C) else none
  | _ => none
theorem wok_0 (A : List Int) (r : List (List Int)) (h : ¬ numOk A 1 2) : wok (A :: r) = none := by
  match r with
  | [] => rfl
  | [B] => rfl
  | [B, C] => exact if_neg (fun q => h q.1)
  | B :: C :: D :: r => rfl
theorem wok_1 (A B : List Int) (r : List (List Int)) (h : ¬ numOk B 1 1) : wok (A :: B :: r) = none := by
  match r with
  | [] => rfl
  | [C] => exact if_neg (fun q => h q.2.1)
  | C :: D :: r => rfl
theorem wok_2 (A B C : List Int) (r : List (List Int)) (h : ¬ numOk C 1 1) : wok (A :: B :: C :: r) = none := by
  match r with
  | [] => exact if_neg (fun q => h q.2.2)
  | D :: r => rfl
theorem rweekly_is (l : List Int) (hb : Byt l) (hl : l.length ≤ 100000) (i : Nat) (hi : i ≤ l.length) :
    (∃ m w d, wok (spl 46 (l.drop i)) = some (3, m, w, d) ∧ Ev (fun k => rule_weekly.f k (strOfNums l) i none) (3, m, w, d, 0, strOfNums l, (l.length : Int), none)) ∨
    (wok (spl 46 (l.drop i)) = none ∧ ∃ (m w d : Int) (j : Nat) (e : Option Int), Ev (fun k => rule_weekly.f k (strOfNums l) i none) (3, m, w, d, 0, strOfNums l, (j : Int), e) ∧ j ≤ l.length ∧ endV l j e ≠ none) := by
  have hc : ¬ (48 ≤ (46 : Int) ∧ (46 : Int) ≤ 57) := by decide
  have al := tw_le 46 (l.drop i)
  have dl : (l.drop i).length = l.length - i := List.length_drop
  have f1 := sFigures_is l hb i none 1 2 hi (by omega)
  have endS : ∀ (j : Nat) (c : Int), endV l j (some c) ≠ none := fun j c => by simp [endV]
  unfold rule_weekly.f
  by_cases o1 : numOk (tw 46 (l.drop i)) 1 2
  · rw [fld_ok l hb i 46 hc 1 2 (by decide) (by decide) (by decide) o1] at f1
    rw [spl_step]
    by_cases e1 : (tw 46 (l.drop i)).length = (l.drop i).length
    · rw [if_pos e1]
      obtain ⟨c, hm⟩ := sMust_no l hb (i + (tw 46 (l.drop i)).length) none (by omega) hl (comes_end l _ 46 (by omega))
      exact Or.inr ⟨rfl, _, _, _, _, _, Ev.bind f1 (Ev.bind hm (Ev.bind (fig_frozen l hb _ c 1 1 (by omega) hl) (Ev.bind (must_frozen l hb _ c (by omega) hl) (Ev.bind (fig_frozen l hb _ c 1 1 (by omega) hl) (Ev.now _))))), by omega, endS _ _⟩
    · rw [if_neg e1]
      have s1 := tw_sign 46 (l.drop i) e1
      rw [List.drop_drop, List.drop_drop] at s1
      generalize ha : tw 46 (l.drop i) = A at *
      rw [List.drop_drop, show i + (A.length + 1) = i + A.length + 1 by omega]
      rw [show i + (A.length + 1) = i + A.length + 1 by omega] at s1
      have m1 := sMust_yes l hb (i + A.length) (by omega) hl (comes_at l _ 46 _ s1)
      have d2 : (l.drop (i + A.length + 1)).length = l.length - (i + A.length + 1) := List.length_drop
      have b2 := tw_le 46 (l.drop (i + A.length + 1))
      have f2 := sFigures_is l hb (i + A.length + 1) none 1 1 (by omega) (by omega)
      rw [spl_step]
      by_cases o2 : numOk (tw 46 (l.drop (i + A.length + 1))) 1 1
      · rw [fld_ok l hb (i + A.length + 1) 46 hc 1 1 (by decide) (by decide) (by decide) o2] at f2
        by_cases e2 : (tw 46 (l.drop (i + A.length + 1))).length = (l.drop (i + A.length + 1)).length
        · rw [if_pos e2]
          obtain ⟨c, hm⟩ := sMust_no l hb (i + A.length + 1 + (tw 46 (l.drop (i + A.length + 1))).length) none (by omega) hl (comes_end l _ 46 (by omega))
          exact Or.inr ⟨rfl, _, _, _, _, _, Ev.bind f1 (Ev.bind m1 (Ev.bind f2 (Ev.bind hm (Ev.bind (fig_frozen l hb _ c 1 1 (by omega) hl) (Ev.now _))))), by omega, endS _ _⟩
        · rw [if_neg e2]
          have s2 := tw_sign 46 (l.drop (i + A.length + 1)) e2
          rw [List.drop_drop, List.drop_drop] at s2
          generalize hB : tw 46 (l.drop (i + A.length + 1)) = B at *
          rw [List.drop_drop, show i + A.length + 1 + (B.length + 1) = i + A.length + 1 + B.length + 1 by omega]
          rw [show i + A.length + 1 + (B.length + 1) = i + A.length + 1 + B.length + 1 by omega] at s2
          have m2 := sMust_yes l hb (i + A.length + 1 + B.length) (by omega) hl (comes_at l _ 46 _ s2)
          have d3 : (l.drop (i + A.length + 1 + B.length + 1)).length = l.length - (i + A.length + 1 + B.length + 1) := List.length_drop
          have b3 := tw_le 46 (l.drop (i + A.length + 1 + B.length + 1))
          have f3 := sFigures_is l hb (i + A.length + 1 + B.length + 1) none 1 1 (by omega) (by omega)
          rw [spl_step]
          by_cases o3 : numOk (tw 46 (l.drop (i + A.length + 1 + B.length + 1))) 1 1
          · rw [fld_ok l hb _ 46 hc 1 1 (by decide) (by decide) (by decide) o3] at f3
            by_cases e3 : (tw 46 (l.drop (i + A.length + 1 + B.length + 1))).length = (l.drop (i + A.length + 1 + B.length + 1)).length
            · rw [if_pos e3]
              refine Or.inl ⟨_, _, _, if_pos ⟨o1, o2, o3⟩, Ev.bind f1 (Ev.bind m1 (Ev.bind f2 (Ev.bind m2 (Ev.bind f3 ?_))))⟩
              simp only []
              rw [show i + A.length + 1 + B.length + 1 + (tw 46 (l.drop (i + A.length + 1 + B.length + 1))).length = l.length by omega]
              exact Ev.now _
            · rw [if_neg e3]
              obtain ⟨q, r, hq⟩ := spl_some 46 ((l.drop (i + A.length + 1 + B.length + 1)).drop ((tw 46 (l.drop (i + A.length + 1 + B.length + 1))).length + 1))
              rw [hq]
              exact Or.inr ⟨rfl, _, _, _, _, _, Ev.bind f1 (Ev.bind m1 (Ev.bind f2 (Ev.bind m2 (Ev.bind f3 (Ev.now _))))), by omega, by unfold endV; simp only; rw [if_pos (by omega)]; simp⟩
          · obtain ⟨n, j, e, hs, hj, hst, _⟩ := fld_not l hb (i + A.length + 1 + B.length + 1) (by omega) 46 hc 1 1 (by decide) (by decide) (by decide) o3
            rw [hs] at f3
            refine Or.inr ⟨by split <;> exact wok_2 _ _ _ _ o3, _, _, _, _, _, Ev.bind f1 (Ev.bind m1 (Ev.bind f2 (Ev.bind m2 (Ev.bind f3 (Ev.now _))))), hj, hst.2⟩
      · obtain ⟨n, j, e, hs, hj, hst, _⟩ := fld_not l hb (i + A.length + 1) (by omega) 46 hc 1 1 (by decide) (by decide) (by decide) o2
        rw [hs] at f2
        obtain ⟨c, hm⟩ := sMust_no l hb j e hj hl hst.1
        refine Or.inr ⟨by split <;> exact wok_1 _ _ _ o2, _, _, _, _, _, Ev.bind f1 (Ev.bind m1 (Ev.bind f2 (Ev.bind hm (Ev.bind (fig_frozen l hb _ c 1 1 hj hl) (Ev.now _))))), hj, endS _ _⟩
  · obtain ⟨n, j, e, hs, hj, hst, _⟩ := fld_not l hb i hi 46 hc 1 2 (by decide) (by decide) (by decide) o1
    rw [hs] at f1
    obtain ⟨c, hm⟩ := sMust_no l hb j e hj hl hst.1
    obtain ⟨r, hr⟩ : ∃ r, spl 46 (l.drop i) = tw 46 (l.drop i) :: r := by
      rw [spl_step]; split <;> exact ⟨_, rfl⟩
    rw [hr]
    exact Or.inr ⟨wok_0 _ _ o1, _, _, _, _, _, Ev.bind f1 (Ev.bind hm (Ev.bind (fig_frozen l hb _ c 1 1 hj hl) (Ev.bind (must_frozen l hb _ c hj hl) (Ev.bind (fig_frozen l hb _ c 1 1 hj hl) (Ev.now _))))), hj, endS _ _⟩
theorem ruleparse_is (l : List Int) (hb : Byt l) (hl : l.length ≤ 1000) : Ev (fun k => rule_Parse.f k (strOfNums l)) (ruleP l) := by
  have hd : Byt (dateS l) := fun x hx => hb x (by
    have := List.mem_of_mem_take (i := (tw 47 l).length) (l := l) (a := x) (by rw [tw_take2]; exact hx)
    exact this)
  have hdl : (dateS l).length ≤ 1000 := by have := tw_le 47 l; unfold dateS; omega
  unfold rule_Parse.f
  refine Ev.bindc (cut_is l hb (by omega)) ?_
  simp only []
  have fin := pr_end l (dateS l) hb hl
  have bad := fun (j : Nat) (e : Option Int) (k m w d t : Int) (hj : j ≤ (dateS l).length) (h : endV (dateS l) j e ≠ none) => pr_bad (if timed l then strOfNums (timeS l) else (⟨#[]⟩ : ByteArray)) (decide (timed l)) (dateS l) j e k m w d t hj h
  unfold ruleP
  generalize dateS l = D at *
  have hcm : ∀ c, c ≠ 0 → comesV D c = decide (D.headD 0 = c) := by
    intro c h0
    cases D with
    | nil => simp [comesV]; exact fun q => h0 q.symm
    | cons x D => unfold comesV; rw [List.head?_cons, Bool.eq_iff_iff]; simp
  have one : ∀ c, c ≠ 0 → D.headD 0 = c → 1 ≤ D.length := by
    intro c h0 h
    cases D with
    | nil => exact absurd h.symm h0
    | cons x D => simp
  refine Ev.bindc (show scan_New_string.f (strOfNums D) = some (strOfNums D, ((0 : Nat) : Int), none) from rfl) (Ev.bindc (sTake_is D hd 0 none 74 (by omega) (by omega)) ?_)
  simp only [leftV_none, List.drop_zero]
  rw [hcm 74 (by decide)]
  unfold dateP
  by_cases h74 : D.headD 0 = 74
  · rw [decide_eq_true h74, if_pos rfl, if_pos h74]
    have h1 := one 74 (by decide) h74
    have f := sFigures_is D hd 1 none 1 3 h1 (by omega)
    refine Ev.pos rfl (Ev.bind f ?_)
    by_cases o : numOk (D.drop 1) 1 3
    · rw [whole_ok D hd 1 h1 1 3 (by decide) (by decide) (by decide) o, if_pos o]
      exact fin 1 0 0 (numV (D.drop 1)) 0
    · obtain ⟨n, j, e, hs, hj, he⟩ := whole_no D hd 1 h1 1 3 (by decide) (by decide) (by decide) o
      rw [hs, if_neg o]
      exact bad j e 1 0 0 n 0 hj he
  · rw [decide_eq_false h74, if_neg (by decide), if_neg h74]
    refine Ev.neg (by decide) (Ev.bindc (sTake_is D hd 0 none 77 (by omega) (by omega)) ?_)
    simp only [leftV_none, List.drop_zero]
    rw [hcm 77 (by decide)]
    by_cases h77 : D.headD 0 = 77
    · rw [decide_eq_true h77, if_pos rfl, if_pos h77]
      have h1 := one 77 (by decide) h77
      refine Ev.pos rfl ?_
      rcases rweekly_is D hd (by omega) 1 h1 with ⟨m, w, d, hw, hv⟩ | ⟨hw, m, w, d, j, e, hv, hj, he⟩
      · refine Ev.bind hv ?_
        have hw' : (match spl 46 (D.drop 1) with | [A, B, C] => if numOk A 1 2 ∧ numOk B 1 1 ∧ numOk C 1 1 then some (3, numV A, numV B, numV C) else none | _ => none) = some ((3 : Int), m, w, d) := hw
        rw [hw']
        exact fin 3 m w d 0
      · refine Ev.bind hv ?_
        have hw' : (match spl 46 (D.drop 1) with | [A, B, C] => if numOk A 1 2 ∧ numOk B 1 1 ∧ numOk C 1 1 then some (3, numV A, numV B, numV C) else none | _ => none) = (none : Option (Int × Int × Int × Int)) := hw
        rw [hw']
        exact bad j e 3 m w d 0 hj he
    · rw [decide_eq_false h77, if_neg (by decide), if_neg h77]
      have f := sFigures_is D hd 0 none 1 3 (by omega) (by omega)
      refine Ev.neg (by decide) (Ev.bind f ?_)
      by_cases o : numOk D 1 3
      · have := whole_ok D hd 0 (by omega) 1 3 (by decide) (by decide) (by decide) o
        rw [this, if_pos o]
        exact fin 2 0 0 (numV D) 0
      · obtain ⟨n, j, e, hs, hj, he⟩ := whole_no D hd 0 (by omega) 1 3 (by decide) (by decide) (by decide) o
        rw [hs, if_neg o]
        exact bad j e 2 0 0 n 0 hj he
/-- The text of a right rule. -/
def kindT (k m w : Int) : List Int := if k = 1 then [74] else if k = 3 then 77 :: (rawV m.toNat 1 ++ (46 :: (rawV w.toNat 1 ++ [46]))) else []
def putT (k m w d t : Int) : List Int := kindT k m w ++ (rawV d.toNat 1 ++ (if t = 7200 then [] else 47 :: clockT t))
theorem wkind_is (k m w d : Int) (h : mayR k m w d) : Ev (fun n => wkind n k m w) (kindT k m w, none) := by
  unfold mayR at h
  unfold wkind kindT
  refine Ev.ite (fun h1 => ?_) (fun h1 => Ev.ite (fun h3 => ?_) (fun h3 => ?_))
  · rw [if_pos h1]
    exact Ev.bindc (show wtext [] ⟨#[74]⟩ = some [74] from wtext_is [] [74] (by unfold Byt; decide) (by decide)) (Ev.now _)
  · rw [if_neg h1, if_pos h3]
    have s1 := rawV_short m.toNat 0 (by omega) (by decide)
    have s2 := rawV_short w.toNat 0 (by omega) (by decide)
    have p1 := wput_is [77] none m 0 (by omega) (by decide) (by decide)
    have l1 : ([77] ++ rawV m.toNat (0 : Int).toNat).length ≤ 50 := by rw [List.length_append]; have : (rawV m.toNat (0 : Int).toNat).length ≤ 20 := s1; simp; omega
    have c1 := wtext_is ([77] ++ rawV m.toNat (0 : Int).toNat) [46] (by unfold Byt; decide) (by simp only [List.length_cons, List.length_nil]; omega)
    have p2 := wput_is ([77] ++ rawV m.toNat (0 : Int).toNat ++ [46]) none w 0 (by omega) (by decide) (by rw [List.length_append]; simp only [List.length_cons, List.length_nil]; omega)
    have l2 : ([77] ++ rawV m.toNat (0 : Int).toNat ++ [46] ++ rawV w.toNat (0 : Int).toNat).length ≤ 100 := by rw [List.length_append, List.length_append]; have : (rawV w.toNat (0 : Int).toNat).length ≤ 20 := s2; simp only [List.length_cons, List.length_nil]; omega
    have c2 := wtext_is ([77] ++ rawV m.toNat (0 : Int).toNat ++ [46] ++ rawV w.toNat (0 : Int).toNat) [46] (by unfold Byt; decide) (by simp only [List.length_cons, List.length_nil]; omega)
    refine Ev.bindc (show wtext [] ⟨#[77]⟩ = some [77] from wtext_is [] [77] (by unfold Byt; decide) (by decide)) (Ev.bind p1 (Ev.bindc (show wtext _ ⟨#[46]⟩ = some _ from c1) (Ev.bind p2 (Ev.bindc (show wtext _ ⟨#[46]⟩ = some _ from c2) (Ev.cast (Ev.now _) ?_)))))
    simp only [Prod.mk.injEq, and_true]
    simp [raw01]
  · rw [if_neg h1, if_neg h3]; exact Ev.now _
theorem kindT_short (k m w d : Int) (h : mayR k m w d) : (kindT k m w).length ≤ 60 := by
  unfold mayR at h
  unfold kindT
  split
  · simp
  · split
    · have s1 := rawV_short m.toNat 1 (by omega) (by decide)
      have s2 := rawV_short w.toNat 1 (by omega) (by decide)
      simp; omega
    · simp
theorem ruleput_is (k m w d t : Int) : Ev (fun n => rule_Put.f n k m w d t) (match chkV k m w d t with | none => (strOfNums (putT k m w d t), none) | some c => ((⟨#[]⟩ : ByteArray), some c)) := by
  unfold rule_Put.f
  refine Ev.bindc (chk_is k m w d t) ?_
  have hc := @chkV_none k m w d t
  cases hq : chkV k m w d t with
  | some c => exact Ev.neg (by simp) (Ev.now _)
  | none =>
    obtain ⟨hm, ht⟩ := hc hq
    have ks := kindT_short k m w d hm
    have hd : 0 ≤ d ∧ d ≤ 365 := by unfold mayR at hm; omega
    have ds := rawV_short d.toNat 0 (by omega) (by decide)
    unfold timeR at ht
    have p := wput_is (kindT k m w) none d 0 (by omega) (by decide) (by omega)
    have l1 : (kindT k m w ++ rawV d.toNat (0 : Int).toNat).length ≤ 90 := by rw [List.length_append]; have : (rawV d.toNat (0 : Int).toNat).length ≤ 20 := ds; omega
    refine Ev.pos rfl (Ev.bind (wkind_is k m w d hm) (Ev.bind p ?_))
    have wt : Ev (fun n => wtime n (kindT k m w ++ rawV d.toNat (0 : Int).toNat, none) t) (putT k m w d t, none) := by
      unfold wtime putT
      refine Ev.ite (fun h => ?_) (fun h => ?_)
      · rw [if_pos h, List.append_nil]; exact Ev.now _
      · rw [if_neg h]
        have c1 := wtext_is (kindT k m w ++ rawV d.toNat (0 : Int).toNat) [47] (by unfold Byt; decide) (by simp only [List.length_cons, List.length_nil]; omega)
        have cl := wclock_is (kindT k m w ++ rawV d.toNat (0 : Int).toNat ++ [47]) none t (by omega) (by rw [List.length_append]; simp only [List.length_cons, List.length_nil]; omega)
        refine Ev.bindc (show wtext _ ⟨#[47]⟩ = some _ from c1) (Ev.cast cl ?_)
        simp [raw01]
    exact Ev.bind wt (Ev.now _)
def toE (p : Int × Int × Int × Int × Int × Option Int) : Int × Int × Int × Int × Int × Int := (p.1, p.2.1, p.2.2.1, p.2.2.2.1, p.2.2.2.2.1, en p.2.2.2.2.2)
theorem rj8_bad (s : ByteArray) (a k m w d t : Int) : Ev (fun n => horologeref16_Parse.j8 n s a false k m w d t) (0, 0, 0, 0, 0, 2) := by
  refine Ev.up ?_
  simp only [horologeref16_Parse.j8, Bool.false_eq_true, if_false]
  exact Ev.now _
theorem rj8_chk (k m w d t : Int) : Ev (fun n => (horologeref16_Check.f n k m w d t).bind fun t410 => if t410 = 0 then some (k, m, w, d, t, 0) else some (0, 0, 0, 0, 0, t410)) (toE (ruleC k m w d t)) := by
  refine Ev.bind (rchk_is k m w d t) ?_
  unfold ruleC
  have he := chkV_err k m w d t
  cases hq : chkV k m w d t with
  | none => exact Ev.pos rfl (Ev.now _)
  | some c =>
    rw [hq] at he
    exact Ev.neg (fun q => he (by rw [show c = 0 from q])) (Ev.now _)
theorem rj8_is (l : List Int) (hb : Byt l) (hl : l.length ≤ 1000) (k m w d : Int) : Ev (fun n => horologeref16_Parse.j8 n (strOfNums l) ((tw 47 l).length : Int) true k m w d 7200)
    (toE (if timed l then (match clockP (timeS l) 167 with | (t, none) => ruleC k m w d t | (_, some e) => (0, 0, 0, 0, 0, some e)) else ruleC k m w d 7200)) := by
  have hle := tw_le 47 l
  refine Ev.up ?_
  simp only [horologeref16_Parse.j8, if_true]
  rw [son_size]
  by_cases h : timed l
  · have h' := h
    unfold timed at h'
    rw [if_pos h, show wrap64 (((tw 47 l).length : Int) + 1) = (((tw 47 l).length + 1 : Nat) : Int) by rw [wr (by omega)]; rfl]
    refine Ev.pos (by omega) (Ev.pos (by omega) (Ev.pos (by omega) ?_))
    have hx : (strOfNums l).extract ((((tw 47 l).length + 1 : Nat) : Int)).toNat l.length = strOfNums (timeS l) := by
      rw [Int.toNat_natCast, son_extract, List.take_of_length_le (by rw [List.length_drop]; omega)]; rfl
    rw [hx]
    refine Ev.bind (rparseclock_is (timeS l) (hb.drop _) (by unfold timeS; rw [List.length_drop]; omega) 167) ?_
    have he := clockP_err (timeS l) 167
    rcases hq : clockP (timeS l) 167 with ⟨t2, e⟩
    rw [hq] at he
    cases e with
    | none => exact Ev.pos rfl (rj8_chk k m w d t2)
    | some e =>
      have he0 : e ≠ 0 := fun q => he (by rw [q])
      exact Ev.neg he0 (Ev.now _)
  · have h' := h
    unfold timed at h'
    rw [if_neg h]
    exact Ev.neg (by omega) (rj8_chk k m w d 7200)
theorem rl1_bad (s : ByteArray) (a i k m w d t : Int) (L : List ByteArray) : Ev (fun n => horologeref16_Parse.l1 n s a false L i k m w d t) (0, 0, 0, 0, 0, 2) := by
  refine Ev.up ?_
  simp only [horologeref16_Parse.l1]
  have j : Ev (fun n => horologeref16_Parse.j5 n s a false L i false k m w d t) (0, 0, 0, 0, 0, 2) := by
    refine Ev.up ?_
    simp only [horologeref16_Parse.j5, Bool.false_eq_true, if_false]
    exact rj8_bad _ _ _ _ _ _ _
  exact Ev.ite (fun _ => j) (fun _ => j)
theorem rl1_step (s : ByteArray) (a : Int) (L : List (List Int)) (k m w d t : Int) (i : Nat) (hi : i < 3) (h3 : L.length = 3) (hb : Byt (L.getD i [])) (hl : (L.getD i []).length ≤ 100000) {r : Int × Int × Int × Int × Int × Int}
    (hbad : ¬ numOk (L.getD i []) 1 (if i = 0 then 2 else 1) → r = (0, 0, 0, 0, 0, 2))
    (hgo : numOk (L.getD i []) 1 (if i = 0 then 2 else 1) → Ev (fun n => horologeref16_Parse.l1 n s a true (L.map strOfNums) ((i + 1 : Nat) : Int) k (if i = 0 then numV (L.getD i []) else m) (if i = 1 then numV (L.getD i []) else w) (if i = 2 then numV (L.getD i []) else d) t) r) :
    Ev (fun n => horologeref16_Parse.l1 n s a true (L.map strOfNums) i k m w d t) r := by
  have hrd : rdOf ByteArray.empty (L.map strOfNums) (i : Int) = strOfNums (L.getD i []) := by
    unfold rdOf
    simp [List.getD_eq_getElem?_getD, h3, hi]
  have j7 : ∀ (ok : Bool) (n0 : Int), (ok = true → n0 = numV (L.getD i [])) → (ok = true ↔ numOk (L.getD i []) 1 (if i = 0 then 2 else 1)) → Ev (fun n => if (i : Int) = 0 then horologeref16_Parse.j7 n s a ok (L.map strOfNums) i n0 k n0 w d t else horologeref16_Parse.j7 n s a ok (L.map strOfNums) i n0 k m w d t) r := by
    intro ok n0 hn hok
    have fin : ∀ m' w' d' : Int, (ok = true → m' = (if i = 0 then numV (L.getD i []) else m) ∧ w' = (if i = 1 then numV (L.getD i []) else w) ∧ d' = (if i = 2 then numV (L.getD i []) else d)) → Ev (fun n => horologeref16_Parse.l1 n s a ok (L.map strOfNums) (wrap64 ((i : Int) + 1)) k m' w' d' t) r := by
      intro m' w' d' hq
      rw [show wrap64 ((i : Int) + 1) = ((i + 1 : Nat) : Int) by rw [wr (by omega)]; rfl]
      cases ok with
      | true =>
        obtain ⟨q1, q2, q3⟩ := hq rfl
        rw [q1, q2, q3]
        exact hgo (hok.mp rfl)
      | false =>
        rw [hbad (fun z => by have := hok.mpr z; cases this)]
        exact rl1_bad _ _ _ _ _ _ _ _ _
    by_cases h0 : i = 0
    · refine Ev.pos (by omega) (Ev.up ?_)
      simp only [horologeref16_Parse.j7]
      refine Ev.neg (by omega) (Ev.neg (by omega) (fin _ _ _ (fun z => ⟨by rw [if_pos h0, hn z], by rw [if_neg (by omega)], by rw [if_neg (by omega)]⟩)))
    · refine Ev.neg (by omega) (Ev.up ?_)
      simp only [horologeref16_Parse.j7]
      by_cases h1 : i = 1
      · refine Ev.pos (by omega) (Ev.neg (by omega) (fin _ _ _ (fun z => ⟨by rw [if_neg h0], by rw [if_pos h1, hn z], by rw [if_neg (by omega)]⟩)))
      · refine Ev.neg (by omega) (Ev.pos (by omega) (fin _ _ _ (fun z => ⟨by rw [if_neg h0], by rw [if_neg h1], by rw [if_pos (by omega), hn z]⟩)))
  have j6 : ∀ most : Int, most = (if i = 0 then 2 else 1) → Ev (fun n => horologeref16_Parse.j6 n s a (L.map strOfNums) i most k m w d t) r := by
    intro most hm
    refine Ev.up ?_
    simp only [horologeref16_Parse.j6]
    rw [hrd, List.length_map]
    refine Ev.pos (by omega) (Ev.pos (by omega) (Ev.bind (rnum_is _ hb hl 1 most (by rw [hm]; split <;> decide)) ?_))
    rw [hm]
    by_cases o : numOk (L.getD i []) 1 (if i = 0 then 2 else 1)
    · rw [if_pos o]; exact j7 true _ (fun _ => rfl) ⟨fun _ => o, fun _ => rfl⟩
    · rw [if_neg o]; exact j7 false 0 (fun z => by cases z) ⟨(fun z => by cases z), fun z => absurd z o⟩
  refine Ev.up ?_
  simp only [horologeref16_Parse.l1]
  refine Ev.pos (by omega) (Ev.up ?_)
  simp only [horologeref16_Parse.j5, if_true]
  refine Ev.ite (fun h0 => j6 2 (by rw [if_pos (by omega)])) (fun h0 => j6 1 (by rw [if_neg (by omega)]))
theorem spl_parts (c : Int) (t : List Int) (hb : Byt t) : ∀ p ∈ spl c t, Byt p ∧ p.length ≤ t.length := by
  induction t with
  | nil => intro p hp; simp [spl] at hp; subst hp; exact ⟨fun x hx => (by cases hx), Nat.le_refl _⟩
  | cons x t ih =>
    intro p hp
    obtain ⟨a, r, ha⟩ := spl_some c t
    rw [spl_at, ha] at hp
    have ih := ih hb.tail
    rw [ha] at ih
    split at hp
    · rcases List.mem_cons.mp hp with e | hp
      · subst e; exact ⟨fun x hx => (by cases hx), Nat.zero_le _⟩
      · obtain ⟨q1, q2⟩ := ih p hp
        exact ⟨q1, by rw [List.length_cons]; omega⟩
    · rcases List.mem_cons.mp hp with e | hp
      · subst e
        obtain ⟨q1, q2⟩ := ih a (List.mem_cons_self ..)
        refine ⟨fun y hy => ?_, by rw [List.length_cons, List.length_cons]; omega⟩
        rcases List.mem_cons.mp hy with e | hy
        · rw [e]; exact hb.head
        · exact q1 y hy
      · obtain ⟨q1, q2⟩ := ih p (List.mem_cons_of_mem _ hp)
        exact ⟨q1, by rw [List.length_cons]; omega⟩
/-- A Weekly rule's parts. -/
theorem rl1_is (l : List Int) (hb : Byt l) (hl : l.length ≤ 1000) (r : List Int) (hr : Byt r) (hrl : r.length ≤ 1000) :
    Ev (fun n => horologeref16_Parse.l1 n (strOfNums l) ((tw 47 l).length : Int) (((((spl 46 r).map strOfNums).length : Nat) : Int) == 3) ((spl 46 r).map strOfNums) 0 3 0 0 0 7200)
      (match wok (spl 46 r) with | none => (0, 0, 0, 0, 0, 2) | some (k, m, w, d) => toE (if timed l then (match clockP (timeS l) 167 with | (t, none) => ruleC k m w d t | (_, some e) => (0, 0, 0, 0, 0, some e)) else ruleC k m w d 7200)) := by
  have hp := spl_parts 46 r hr
  generalize spl 46 r = L at *
  rw [List.length_map]
  by_cases h3 : L.length = 3
  · rw [show ((((L.length : Nat) : Int) == 3)) = true from beq_iff_eq.mpr (by omega)]
    match L, h3, hp with
    | [A, B, C], h3, hp =>
      have hA := hp A (by simp)
      have hB := hp B (by simp)
      have hC := hp C (by simp)
      refine rl1_step _ _ [A, B, C] 3 0 0 0 7200 0 (by decide) h3 hA.1 (by show A.length ≤ 100000; omega) ?_ ?_
      · intro z
        rw [wok_0 A _ z]
      · intro z
        refine rl1_step _ _ [A, B, C] 3 _ _ _ 7200 1 (by decide) h3 hB.1 (by show B.length ≤ 100000; omega) ?_ ?_
        · intro z2
          rw [wok_1 A B _ z2]
        · intro z2
          refine rl1_step _ _ [A, B, C] 3 _ _ _ 7200 2 (by decide) h3 hC.1 (by show C.length ≤ 100000; omega) ?_ ?_
          · intro z3
            rw [wok_2 A B C _ z3]
          · intro z3
            have hw : wok [A, B, C] = some (3, numV A, numV B, numV C) := if_pos ⟨z, z2, z3⟩
            rw [hw]
            refine Ev.up ?_
            simp only [horologeref16_Parse.l1]
            refine Ev.neg (by decide) (Ev.up ?_)
            simp only [horologeref16_Parse.j5, Bool.false_eq_true, if_false]
            exact rj8_is l hb hl 3 (numV A) (numV B) (numV C)
  · rw [show ((((L.length : Nat) : Int) == 3)) = false from beq_eq_false_iff_ne.mpr (by omega)]
    have hw : wok L = none := by
      match L, h3 with
      | [], _ => rfl
      | [A], _ => rfl
      | [A, B], _ => rfl
      | A :: B :: C :: D :: R, _ => rfl
    rw [hw]
    exact rl1_bad _ _ _ _ _ _ _ _ _
theorem rj1_is (l : List Int) (hb : Byt l) (hl : l.length ≤ 1000) : Ev (fun n => horologeref16_Parse.j1 n (strOfNums l) ((tw 47 l).length : Int)) (toE (ruleP l)) := by
  have hle := tw_le 47 l
  have hD : Byt (dateS l) := fun x hx => hb x (by
    have := List.mem_of_mem_take (i := (tw 47 l).length) (l := l) (a := x) (by rw [tw_take2]; exact hx)
    exact this)
  have hDl : (dateS l).length ≤ 1000 := by unfold dateS; omega
  have hx : (strOfNums l).extract 0 (((tw 47 l).length : Nat) : Int).toNat = strOfNums (dateS l) := by
    rw [Int.toNat_natCast, son_first, tw_take2]; rfl
  refine Ev.up ?_
  simp only [horologeref16_Parse.j1]
  rw [hx]
  refine Ev.pos (by omega) (Ev.pos (by rw [son_size]; omega) ?_)
  have fin := rj8_is l hb hl
  unfold ruleP
  have none_ : toE (match (none : Option (Int × Int × Int × Int)) with | none => ((0, 0, 0, 0, 0, some 2) : Int × Int × Int × Int × Int × Option Int) | some (k, m, w, d) => if timed l then (match clockP (timeS l) 167 with | (t, none) => ruleC k m w d t | (_, some e) => (0, 0, 0, 0, 0, some e)) else ruleC k m w d 7200) = (0, 0, 0, 0, 0, 2) := rfl
  generalize dateS l = D at *
  -- the Counted ones
  have j3f : D.headD 0 ≠ 74 → D.headD 0 ≠ 77 → Ev (fun n => horologeref16_Parse.j3 n (strOfNums l) ((tw 47 l).length : Int) (strOfNums D) false 2 0 0 0 7200) (toE (match dateP D with | none => (0, 0, 0, 0, 0, some 2) | some (k, m, w, d) => if timed l then (match clockP (timeS l) 167 with | (t, none) => ruleC k m w d t | (_, some e) => (0, 0, 0, 0, 0, some e)) else ruleC k m w d 7200)) := by
    intro h74 h77
    refine Ev.up ?_
    simp only [horologeref16_Parse.j3, Bool.false_eq_true, if_false]
    refine Ev.bind (rnum_is D hD (by omega) 1 3 (by decide)) ?_
    unfold dateP
    rw [if_neg h74, if_neg h77]
    by_cases o : numOk D 1 3
    · rw [if_pos o, if_pos o]; exact fin 2 0 0 (numV D)
    · rw [if_neg o, if_neg o]; exact rj8_bad _ _ _ _ _ _ _
  cases D with
  | nil =>
    refine Ev.neg (by rw [son_size]; simp) (Ev.up ?_)
    simp only [horologeref16_Parse.j2, Bool.false_eq_true, if_false]
    refine Ev.neg (by rw [son_size]; simp) ?_
    exact j3f (by decide) (by decide)
  | cons x D =>
    have b0 : bt (strOfNums (x :: D)) 0 = x := bt_at_son hD (i := 0) (by simp)
    have hdr : (strOfNums (x :: D)).extract 1 (strOfNums (x :: D)).size = strOfNums D := son_cut (x :: D) 1
    have hh : (x :: D).headD 0 = x := rfl
    have hDl' : D.length ≤ 1000 := by rw [List.length_cons] at hDl; omega
    have sz : (strOfNums (x :: D)).size = D.length + 1 := by rw [son_size, List.length_cons]
    rw [b0]
    refine Ev.pos (by omega) (Ev.pos (by omega) ?_)
    by_cases h74 : x = 74
    · rw [show (x == 74) = true from beq_iff_eq.mpr h74]
      refine Ev.up ?_
      simp only [horologeref16_Parse.j2, if_true]
      rw [hdr]
      refine Ev.pos (by omega) (Ev.bind (rnum_is D hD.tail (by omega) 1 3 (by decide)) ?_)
      unfold dateP
      rw [if_pos (show (x :: D).headD 0 = 74 from h74), show (x :: D).drop 1 = D from rfl]
      by_cases o : numOk D 1 3
      · rw [if_pos o, if_pos o]; exact fin 1 0 0 (numV D)
      · rw [if_neg o, if_neg o]; exact rj8_bad _ _ _ _ _ _ _
    · rw [show (x == 74) = false from beq_eq_false_iff_ne.mpr h74]
      refine Ev.up ?_
      simp only [horologeref16_Parse.j2, Bool.false_eq_true, if_false]
      rw [b0]
      refine Ev.pos (by omega) (Ev.pos (by omega) ?_)
      by_cases h77 : x = 77
      · rw [show (x == 77) = true from beq_iff_eq.mpr h77]
        refine Ev.up ?_
        simp only [horologeref16_Parse.j3, if_true]
        rw [hdr]
        refine Ev.pos (by omega) (Ev.bind (rparts_is D hD.tail 46 (by omega)) ?_)
        have w1 := rl1_is l hb hl D hD.tail hDl'
        unfold dateP
        rw [if_neg (show ¬ (x :: D).headD 0 = 74 from h74), if_pos (show (x :: D).headD 0 = 77 from h77), show (x :: D).drop 1 = D from rfl]
        have e : (match spl 46 D with | [A, B, C] => if numOk A 1 2 ∧ numOk B 1 1 ∧ numOk C 1 1 then some ((3 : Int), numV A, numV B, numV C) else none | _ => none) = wok (spl 46 D) := rfl
        rw [e]
        refine Ev.cast w1 ?_
        cases wok (spl 46 D) with
        | none => rfl
        | some q => rfl
      · rw [show (x == 77) = false from beq_eq_false_iff_ne.mpr h77]
        exact j3f h74 h77
theorem rl0_is (l : List Int) (hb : Byt l) (hl : l.length ≤ 1000) (m : Nat) : ∀ i : Nat, i + m = (tw 47 l).length → Ev (fun n => horologeref16_Parse.l0 n (strOfNums l) i) (toE (ruleP l)) := by
  have hle := tw_le 47 l
  induction m with
  | zero =>
    intro i hi
    refine Ev.up ?_
    simp only [horologeref16_Parse.l0]
    rw [show i = (tw 47 l).length by omega]
    refine Ev.ite (fun q => ?_) (fun q => rj1_is l hb hl)
    rw [son_size] at q
    have s := tw_sign 47 l (by omega)
    have h := congrArg List.head? s
    rw [List.head?_drop, List.getElem?_eq_getElem (by omega)] at h
    refine Ev.pos (by omega) (Ev.pos ?_ (rj1_is l hb hl))
    rw [bt_at_son hb (by omega)]
    exact Option.some.inj h
  | succ m ih =>
    intro i hi
    have hil : i < l.length := by omega
    have ne := tw_get (p := fun x => x != 47) (t := l) (r := i) (by show i < (tw 47 l).length; omega) hil
    refine Ev.up ?_
    simp only [horologeref16_Parse.l0]
    rw [bt_at_son hb hil, show wrap64 ((i : Int) + 1) = ((i + 1 : Nat) : Int) by rw [wr (by omega)]; rfl]
    exact Ev.pos (by rw [son_size]; omega) (Ev.pos (by omega) (Ev.neg (by simpa using ne) (ih (i + 1) (by omega))))
theorem rruleparse_is (l : List Int) (hb : Byt l) (hl : l.length ≤ 1000) : Ev (fun n => horologeref16_Parse.f n (strOfNums l)) (toE (ruleP l)) := by
  unfold horologeref16_Parse.f
  exact rl0_is l hb hl _ 0 (Nat.zero_add _)
theorem rj0put_is (s : List Int) (hs : s.length ≤ 100) (k m w d t : Int) (h : mayR k m w d) (ht : timeR t) (hk : k ≠ 1 → s = rawV d.toNat 1) (hk1 : k = 1 → s = 74 :: rawV d.toNat 1) : Ev (fun n => horologeref16_Put.j0 n (strOfNums s) k m w d t) (strOfNums (putT k m w d t)) := by
  have hm := h
  unfold mayR at hm
  unfold timeR at ht
  have rc := rclock_is t (by omega)
  have cl : (clockT t).length ≤ 71 := by
    have := (clock0_short t.natAbs (by omega)).1
    unfold clockT
    rw [List.length_append]
    split <;> simp <;> omega
  have e47 : (⟨#[47]⟩ : ByteArray) = strOfNums [47] := rfl
  have e77 : (⟨#[77]⟩ : ByteArray) = strOfNums [77] := rfl
  have e46 : (⟨#[46]⟩ : ByteArray) = strOfNums [46] := rfl
  refine Ev.up ?_
  simp only [horologeref16_Put.j0]
  unfold putT kindT
  refine Ev.ite (fun h3 => ?_) (fun h3 => ?_)
  · have s1 := rawV_short m.toNat 1 (by omega) (by decide)
    have s2 := rawV_short w.toNat 1 (by omega) (by decide)
    have r1 := rraw_is m.toNat 1 (by omega) (by decide)
    have r2 := rraw_is w.toNat 1 (by omega) (by decide)
    rw [show ((m.toNat : Nat) : Int) = m by omega] at r1
    rw [show ((w.toNat : Nat) : Int) = w by omega] at r2
    have s1' : (rawV m.toNat (1 : Int).toNat).length ≤ 20 := s1
    have s2' : (rawV w.toNat (1 : Int).toNat).length ≤ 20 := s2
    rw [if_neg (by omega), if_pos h3, hk (by omega)]
    have sd : (rawV d.toNat 1).length ≤ 20 := rawV_short d.toNat 1 (by omega) (by decide)
    refine Ev.bind r1 ?_
    simp only [son_size]
    refine Ev.pos (by omega) (Ev.pos (by omega) (Ev.bind r2 ?_))
    simp only [son_size, e77, e46, e47, son_append]
    refine Ev.pos (by omega) (Ev.pos (by omega) (Ev.pos (by omega) (Ev.ite (fun g => ?_) (fun g => Ev.bind rc ?_))))
    · rw [if_pos g]
      exact Ev.cast (Ev.now _) (by simp)
    · rw [if_neg g]
      simp only [son_size, son_append]
      exact Ev.pos (by omega) (Ev.pos (by omega) (Ev.cast (Ev.now _) (by simp)))
  · have e : s = (if k = 1 then [74] else []) ++ rawV d.toNat 1 := by
      by_cases h1 : k = 1
      · rw [if_pos h1, hk1 h1]; rfl
      · rw [if_neg h1, hk h1]; rfl
    rw [if_neg h3]
    refine Ev.ite (fun g => ?_) (fun g => Ev.bind rc ?_)
    · rw [if_pos g, List.append_nil, ← e]; exact Ev.now _
    · rw [if_neg g, ← List.append_assoc, ← e]
      simp only [son_size, e47, son_append]
      exact Ev.pos (by omega) (Ev.pos (by omega) (Ev.cast (Ev.now _) (by simp)))
theorem rruleput_is (k m w d t : Int) (h : mayR k m w d) (ht : timeR t) : Ev (fun n => horologeref16_Put.f n k m w d t) (strOfNums (putT k m w d t)) := by
  have hd : 0 ≤ d ∧ d ≤ 365 := by unfold mayR at h; omega
  have sd : (rawV d.toNat 1).length ≤ 20 := rawV_short d.toNat 1 (by omega) (by decide)
  have r1 := rraw_is d.toNat 1 (by omega) (by decide)
  rw [show ((d.toNat : Nat) : Int) = d by omega] at r1
  unfold horologeref16_Put.f
  refine Ev.bind r1 (Ev.ite (fun h1 => ?_) (fun h1 => ?_))
  · rw [show (⟨#[74]⟩ : ByteArray) = strOfNums [74] from rfl, son_append, son_size]
    refine Ev.pos (by have : (rawV d.toNat (1 : Int).toNat).length ≤ 20 := sd; omega) ?_
    exact rj0put_is _ (by simp; omega) k m w d t h ht (fun q => absurd h1 q) (fun _ => rfl)
  · exact rj0put_is _ (by have : (rawV d.toNat (1 : Int).toNat).length ≤ 20 := sd; omega) k m w d t h ht (fun _ => rfl) (fun q => absurd q h1)
theorem alive_is : Ev (fun k => horologelaw16_alive.f k) true := Ev.of (fun k => horologelaw16_alive.mono k) (k := 40) (by kernel_rfl)
end Go.Proofs.Ytnjeemghkpgcfaa.MRuleTexts
namespace Go.Proofs.Ytnjeemghkpgcfaa.Pure
open Go.RowKit Go.Proofs.Ytnjeemghkpgcfaa.MRuleTexts Go.Proofs.YtnjeemghkpgcfaaW.PrintWords Go.Proofs.YtnjeemghkpgcfaaW.PrintLast Go.Proofs.Ytnjeemghkpgcfaa.Base
set_option linter.unusedVariables false
set_option linter.unusedSimpArgs false
theorem RuleTexts : horologelaw16_RuleTexts.Pure := by
  intro k m w d t s hk hm hw hd ht hs
  refine Ev.ok (g := fun n => horologelaw16_RuleTexts.f n k m w d t s) ?_
  unfold horologelaw16_RuleTexts.f
  refine Ev.bind alive_is (Ev.pos rfl (Ev.ite (fun _ => Ev.now _) (fun hlen => ?_)))
  obtain ⟨l, hb, rfl⟩ : ∃ l, Byt l ∧ s = strOfNums l := ⟨bytesOf s, byt_of s, (son_of s).symm⟩
  have hl : l.length ≤ 100 := by rw [son_size] at hlen; omega
  have j1 : Ev (fun n => horologelaw16_RuleTexts.j1 n (strOfNums l) false) true := by
    refine Ev.up ?_
    simp only [horologelaw16_RuleTexts.j1, Bool.false_eq_true, if_false]
    refine Ev.bind (ruleparse_is l hb (by omega)) (Ev.bind (rruleparse_is l hb (by omega)) (Ev.bindc (doc_is _ _ _ _ _) ?_))
    refine Ev.pos (by simp [toE]) (Ev.bindc (num_en _ (ruleP_err l)) (Ev.cast (Ev.now _) ?_))
    exact beq_self_eq_true _
  have j0 : ∀ (x : ByteArray) (e : Option Int), e ≠ some 0 → Ev (fun n => horologelaw16_RuleTexts.j0 n (strOfNums l) x e (en e) x) true := by
    intro x e he
    refine Ev.up ?_
    simp only [horologelaw16_RuleTexts.j0, if_true]
    refine Ev.bindc (num_en e he) ?_
    rw [bne_self_eq_false]
    exact j1
  refine Ev.bind (ruleput_is k m w d t) (Ev.bindc (doc_is _ _ _ _ _) (Ev.bind (rchk_is k m w d t) ?_))
  have hc := @chkV_none k m w d t
  have he := chkV_err k m w d t
  cases hq : chkV k m w d t with
  | some c =>
    rw [hq] at he
    have hc0 : c ≠ 0 := fun q => he (by rw [q])
    exact Ev.neg hc0 (j0 _ (some c) he)
  | none =>
    obtain ⟨h1, h2⟩ := hc hq
    exact Ev.pos rfl (Ev.bindc (doc_is _ _ _ _ _) (Ev.bind (rruleput_is k m w d t h1 h2) (j0 _ none (by simp))))
end Go.Proofs.Ytnjeemghkpgcfaa.Pure
