/- RuleBack: Put and Parse, and PutClock and ParseClock, undo one another. For every input of Go's kinds; no further condition. -/
import Derived.Test.YtnjeemghkpgcfaaMRuleBackx
import Derived.Test.YtnjeemghkpgcfaaCalBase
import Derived.Test.YtnjeemghkpgcfaaScanBase
namespace Go.Proofs.Ytnjeemghkpgcfaa.MRuleBack
open Go.RowKit Go.Proofs.YtnjeemghkpgcfaaW.PrintWords Go.Proofs.YtnjeemghkpgcfaaW.PrintLast Go.Proofs.YtnjeemghkpgcfaaW.PrintMore Go.Proofs.Ytnjeemghkpgcfaa.Base
set_option linter.unusedVariables false
set_option linter.unusedSimpArgs false

theorem rev_l0 (l : List Int) (hn : l.length ≤ 1000000) (m : Nat) : ∀ (x : List Int) (i : Nat), x.length = l.length → 2 * i + m ≥ l.length → 2 * i ≤ l.length + 1 →
    (∀ t : Nat, t < l.length → rd x t = if t < i ∨ l.length - 1 - i < t then rd l ((l.length - 1 - t : Nat) : Int) else rd l t) →
      Ev (fun k => slices_Reverse_byte_byte.l0 k x i ((l.length : Int) - 1 - i)) l.reverse := by
  induction m with
  | zero =>
    intro x i hl hm h2 h
    refine Ev.up ?_
    simp only [slices_Reverse_byte_byte.l0]
    refine Ev.neg (by omega) ?_
    rw [← rev_of hl (fun t ht => ?_)]
    · exact Ev.now _
    · rw [h t ht]
      by_cases q : t < i ∨ l.length - 1 - i < t
      · rw [if_pos q]
      · rw [if_neg q, show l.length - 1 - t = t by omega]
  | succ m ih =>
    intro x i hl hm h2 h
    by_cases hgo : 2 * i + 1 < l.length
    · have ej : (l.length : Int) - 1 - i = ((l.length - 1 - i : Nat) : Int) := by omega
      refine Ev.up ?_
      simp only [slices_Reverse_byte_byte.l0, ej]
      refine Ev.pos (by omega) (Ev.pos (by omega) (Ev.pos (by omega) (Ev.pos (by omega) (Ev.pos (by omega) ?_))))
      rw [wr (n := (i : Int) + 1) (by omega), wr (n := ((l.length - 1 - i : Nat) : Int) - 1) (by omega)]
      have := ih ((x.set (i : Int).toNat (rd x ((l.length - 1 - i : Nat) : Int))).set ((l.length - 1 - i : Nat) : Int).toNat (rd x i)) (i + 1) (by simp [hl]) (by omega) (by omega) (by
        intro t ht
        simp only [Int.toNat_natCast]
        rw [rd_set _ _ _ (by simp; omega), rd_set _ _ _ (by omega)]
        by_cases t1 : t = l.length - 1 - i
        · rw [if_pos t1, if_pos (by omega), h i (by omega), if_neg (by omega), show l.length - 1 - t = i by omega]
        · rw [if_neg t1]
          by_cases t2 : t = i
          · rw [if_pos t2, if_pos (by omega), h _ (by omega), if_neg (by omega), t2]
          · rw [if_neg t2, h t ht]
            by_cases t3 : t < i ∨ l.length - 1 - i < t
            · rw [if_pos t3, if_pos (by omega)]
            · rw [if_neg t3, if_neg (by omega)])
      rw [show (l.length : Int) - 1 - ((i + 1 : Nat) : Int) = ((l.length - 1 - i : Nat) : Int) - 1 by omega] at this
      exact this
    · exact (by
        refine Ev.up ?_
        simp only [slices_Reverse_byte_byte.l0]
        refine Ev.neg (by omega) ?_
        rw [← rev_of hl (fun t ht => ?_)]
        · exact Ev.now _
        · rw [h t ht]
          by_cases q : t < i ∨ l.length - 1 - i < t
          · rw [if_pos q]
          · rw [if_neg q, show l.length - 1 - t = t by omega])
theorem rev_is (l : List Int) (hn : l.length ≤ 1000000) : Ev (fun k => slices_Reverse_byte_byte.f k l) l.reverse := by
  unfold slices_Reverse_byte_byte.f
  rw [wr (by omega)]
  have := rev_l0 l hn l.length l 0 rfl (by omega) (by omega) (fun t ht => by rw [if_neg (by omega)])
  simpa using this
theorem raw_pad (w : Int) (hw : 0 ≤ w ∧ w ≤ 1000) (m : Nat) : ∀ out : List Int, out.length ≤ 1000 → (max w.toNat 1 - out.length) ≤ m → Ev (fun k => figures_raw.l0 k 0 w out) (strOfNums ((out ++ List.replicate (max w.toNat 1 - out.length) 48).reverse)) := by
  have hx : mx w 1 = ((max w.toNat 1 : Nat) : Int) := by unfold mx; split <;> omega
  induction m with
  | zero =>
    intro out ho hm
    refine Ev.up ?_
    simp only [figures_raw.l0, hx]
    refine Ev.neg (by omega) (Ev.neg (by omega) (Ev.bind (rev_is out (by omega)) ?_))
    rw [show max w.toNat 1 - out.length = 0 by omega, List.replicate_zero, List.append_nil]
    exact Ev.now _
  | succ m ih =>
    intro out ho hm
    by_cases h : out.length < max w.toNat 1
    · refine Ev.up ?_
      simp only [figures_raw.l0, hx]
      have w1 : IntKind.u64.wrap (Int.tdiv 0 10) = 0 := by decide
      have w2 : (48 + Int.tmod 0 10) % 256 = 48 := by decide
      rw [w1, w2]
      refine Ev.neg (by omega) (Ev.pos (by omega) (Ev.pos (by omega) ?_))
      have := ih (out ++ [48]) (by simp; omega) (by simp; omega)
      rw [snoc_rep, show max w.toNat 1 - (out ++ [(48 : Int)]).length + 1 = max w.toNat 1 - out.length by simp; omega] at this
      exact this
    · exact ih out ho (by omega)
theorem raw_l0 (w : Int) (hw : 0 ≤ w ∧ w ≤ 100) (n : Nat) : ∀ out : List Int, n < 18446744073709551616 → out.length + (digs n).length ≤ 200 →
    Ev (fun k => figures_raw.l0 k (n : Int) w out) (strOfNums ((out ++ digs n ++ List.replicate (max w.toNat 1 - (out ++ digs n).length) 48).reverse)) := by
  induction n using Nat.strongRecOn with
  | ind n ih =>
    intro out hn ho
    by_cases h : n = 0
    · subst h
      rw [digs_zero, List.append_nil]
      exact raw_pad w (by omega) _ out (by omega) (Nat.le_refl _)
    · have e := digs_pos (show 0 < n by omega)
      refine Ev.up ?_
      simp only [figures_raw.l0]
      refine Ev.pos (by omega) (Ev.pos (by omega) ?_)
      have w1 : IntKind.u64.wrap (Int.tdiv (n : Int) 10) = ((n / 10 : Nat) : Int) := by rw [tdiv_is, if_neg (by omega), wrap_u64]; omega
      have w2 : (48 + Int.tmod (n : Int) 10) % 256 = 48 + (n : Int) % 10 := by rw [tmod_is, if_neg (by omega)]; omega
      rw [w1, w2]
      have := ih (n / 10) (by omega) (out ++ [48 + (n : Int) % 10]) (by omega) (by rw [e] at ho; simp at ho ⊢; omega)
      rw [show out ++ [48 + (n : Int) % 10] ++ digs (n / 10) = out ++ digs n by rw [e]; simp] at this
      exact this
theorem raw_is (n : Nat) (w : Int) (hn : n < 18446744073709551616) (hw : 0 ≤ w ∧ w ≤ 100) : Ev (fun k => figures_raw.f k (n : Int) w) (strOfNums (rawV n w.toNat)) := by
  have l := digs_len n 20 (by omega)
  have := raw_l0 w hw n [] hn (by simp; omega)
  rw [List.nil_append, List.reverse_append, List.reverse_replicate] at this
  exact this
/-- The text of a number with its sign. -/
def putV (n : Int) (w : Nat) : List Int := if n < 0 then 45 :: rawV (-n).toNat w else rawV n.toNat w
theorem put_is (n w : Int) (hn : I64 n) (hw : 0 ≤ w ∧ w ≤ 20) : Ev (fun k => figures_Put.f k n w) (strOfNums (putV n w.toNat), none) := by
  unfold I64 at hn
  unfold figures_Put.f
  refine Ev.neg (by omega) ?_
  rw [decide_eq_false (by omega)]
  refine Ev.up ?_
  simp only [figures_Put.j0, Bool.false_eq_true, if_false]
  unfold putV
  refine Ev.ite (fun h => ?_) (fun h => ?_)
  · rw [if_pos h, show IntKind.u64.wrap (-IntKind.u64.wrap n) = (((-n).toNat : Nat) : Int) by rw [wrap_u64, wrap_u64]; omega]
    refine Ev.bind (raw_is (-n).toNat w (by omega) (by omega)) (Ev.pos ?_ ?_)
    · rw [son_size, rawV_len]
      have := digs_len (-n).toNat 20 (by omega)
      omega
    · rw [show (⟨#[45]⟩ : ByteArray) = strOfNums [45] from rfl, son_append]
      exact Ev.now _
  · rw [if_neg h, show IntKind.u64.wrap n = ((n.toNat : Nat) : Int) by rw [wrap_u64]; omega]
    exact Ev.bind (raw_is n.toNat w (by omega) (by omega)) (Ev.now _)
/-- What is left of a text from a place on: nothing behind an error. -/
def leftV (l : List Int) (i : Nat) (e : Option Int) : List Int := if e.isNone = true then l.drop i else []
theorem leftV_none (l : List Int) (i : Nat) : leftV l i none = l.drop i := rfl
theorem leftV_some (l : List Int) (i : Nat) (c : Int) : leftV l i (some c) = [] := rfl
theorem leftV_byt {l : List Int} (h : Byt l) (i : Nat) (e : Option Int) : Byt (leftV l i e) := by
  unfold leftV; split
  · exact h.drop i
  · intro x hx; cases hx
theorem leftV_len (l : List Int) (i : Nat) (e : Option Int) : (leftV l i e).length ≤ l.length := by
  unfold leftV; split
  · simp
  · simp
theorem sroom {n : Nat} (h : n ≤ 140737488351232) : n ≤ 140737488355327 := by omega
theorem srest_is (l : List Int) (i : Nat) (e : Option Int) (hi : i ≤ l.length) : scan_Scanner_string_rest.f (strOfNums l) i e = some (strOfNums (leftV l i e), strOfNums l, (i : Int), e) := by
  unfold scan_Scanner_string_rest.f
  cases e with
  | none =>
    rw [if_pos (show (none : Option Int).isNone = true from rfl), if_pos (by omega), if_pos (by rw [son_size]; omega), Int.toNat_natCast, son_cut]; rfl
  | some c => rfl
theorem sclone_is (l : List Int) (hl : l.length ≤ 140737488351232) : strings_Clone.f (strOfNums l) = some (strOfNums l) := by
  unfold strings_Clone.f stringslite_Clone.f
  rw [if_pos (by rw [son_size]; omega)]; rfl
theorem stake_is (l : List Int) (i : Nat) (e : Option Int) (n : Nat) (hi : i ≤ l.length) (hl : l.length ≤ 140737488351232) (hn : n ≤ (leftV l i e).length) :
    scan_Scanner_string_take.f (strOfNums l) i e n = some (strOfNums ((leftV l i e).take n), strOfNums l, ((i + n : Nat) : Int), e) := by
  have hb := leftV_len l i e
  unfold scan_Scanner_string_take.f
  rw [srest_is l i e hi]
  simp only [Option.bind_some]
  rw [if_pos (by omega), if_pos (by rw [son_size]; omega), Int.toNat_natCast, son_first, sclone_is _ (by rw [List.length_take]; omega)]
  by_cases h : n = 0
  · subst h; rfl
  · rw [if_pos (by omega)]
    show some (_, _, wrap64 ((i : Int) + (n : Int)), _) = _
    have hn2 : i + n ≤ l.length ∨ n = 0 := by
      unfold leftV at hn; split at hn
      · rw [List.length_drop] at hn; omega
      · simp at hn; omega
    rw [wr (by omega)]
    congr 1
theorem speek_is (l : List Int) (hb : Byt l) (i : Nat) (e : Option Int) (hi : i ≤ l.length) : scan_Scanner_string_Peek.f (strOfNums l) i e = some ((leftV l i e).headD 0, decide (leftV l i e ≠ []), strOfNums l, (i : Int), e) := by
  unfold scan_Scanner_string_Peek.f
  rw [srest_is l i e hi]
  simp only [Option.bind_some]
  have hb2 := leftV_byt hb i e
  generalize leftV l i e = r at *
  cases r with
  | nil => rw [if_pos (by rw [son_toList]; rfl)]; rfl
  | cons x r =>
    rw [if_neg (by rw [son_toList]; simp), if_pos (by rw [son_size]; simp)]
    have := bt_at_son hb2 (i := 0) (by simp)
    rw [show bt (strOfNums (x :: r)) 0 = x from this]
    simp
/-- Does a byte come? -/
def comesV (r : List Int) (c : Int) : Bool := r.head? == some c
theorem sTake_is (l : List Int) (hb : Byt l) (i : Nat) (e : Option Int) (c : Int) (hi : i ≤ l.length) (hl : l.length ≤ 140737488351232) :
    scan_Scanner_string_Take.f (strOfNums l) i e c = some (comesV (leftV l i e) c, strOfNums l, (if comesV (leftV l i e) c = true then ((i + 1 : Nat) : Int) else (i : Int)), e) := by
  unfold scan_Scanner_string_Take.f
  rw [speek_is l hb i e hi]
  simp only [Option.bind_some]
  have ht := fun h => stake_is l i e 1 hi hl h
  generalize leftV l i e = r at *
  cases r with
  | nil => rfl
  | cons x r =>
    rw [if_pos (by simp)]
    unfold comesV
    by_cases h : x = c
    · subst h
      rw [if_pos (show (x :: r).headD 0 = x from rfl)]
      rw [show scan_Scanner_string_take.f (strOfNums l) (↑i) e 1 = _ from ht (by simp)]
      simp
    · rw [if_neg (show ¬ (x :: r).headD 0 = c from h)]
      have : ((x :: r).head? == some c) = false := by simpa using h
      rw [this]; rfl
theorem tw_take {p : Int → Bool} (r : List Int) : r.take (r.takeWhile p).length = r.takeWhile p := (List.prefix_iff_eq_take.mp (List.takeWhile_prefix p)).symm
theorem tw_len {p : Int → Bool} (r : List Int) : (r.takeWhile p).length ≤ r.length := (List.takeWhile_prefix p).length_le
theorem sErr_is (s : ByteArray) (i : Int) (e : Option Int) : scan_Scanner_string_Err.f s i e = some (e, s, i, e) := rfl
theorem sLeft_is (l : List Int) (i : Nat) (e : Option Int) (hi : i ≤ l.length) : scan_Scanner_string_Left.f (strOfNums l) i e = some (((leftV l i e).length : Int), strOfNums l, (i : Int), e) := by
  unfold scan_Scanner_string_Left.f
  rw [srest_is l i e hi]
  simp only [Option.bind_some, son_size]
/-- The error at the end. -/
def endV (l : List Int) (i : Nat) (e : Option Int) : Option Int := match e with | some c => some c | none => if i < l.length then some 2 else none
theorem sEnd_is (l : List Int) (i : Nat) (e : Option Int) (hi : i ≤ l.length) : scan_Scanner_string_End.f (strOfNums l) i e = some (endV l i e, strOfNums l, (i : Int), e) := by
  unfold scan_Scanner_string_End.f
  rw [sErr_is]
  cases e with
  | some c => rfl
  | none =>
    simp only [Option.bind_some]
    rw [if_pos (show (none : Option Int).isNone = true from rfl), sLeft_is l i none hi]
    simp only [Option.bind_some, leftV_none, List.length_drop]
    unfold endV
    by_cases h : i < l.length
    · rw [if_pos (by omega)]; simp only [if_pos h]
    · rw [if_neg (by omega)]; simp only [if_neg h]
theorem is_is (c : Int) : figures_Is.f c = some (decide (figb c)) := by
  unfold figures_Is.f
  split
  · congr 1; exact decide_eq_decide.mpr ⟨fun q => ⟨by omega, q⟩, fun q => q.2⟩
  · congr 1; exact (decide_eq_false (fun q => by unfold figb at q; omega)).symm
theorem mn_nat (a : Nat) (m : Int) (hm : 0 ≤ m) : mn (a : Int) m = ((min m.toNat a : Nat) : Int) := by unfold mn; split <;> omega
theorem run_l0 (s : ByteArray) (m : Int) (hm : 0 ≤ m) (hs : s.size ≤ 140737488351232) (f : Nat) : ∀ i : Nat, i + f = min m.toNat s.size → Ev (fun k => figures_run.l0 k s m i) ((runG s i f : Nat) : Int) := by
  induction f with
  | zero =>
    intro i hi
    refine Ev.up ?_
    simp only [figures_run.l0, mn_nat _ _ hm, runG]
    exact Ev.neg (by omega) (Ev.now _)
  | succ f ih =>
    intro i hi
    refine Ev.up ?_
    simp only [figures_run.l0, mn_nat _ _ hm, is_is, Option.bind_some]
    refine Ev.pos (by omega) (Ev.pos (by omega) (Ev.pos (by omega) (Ev.ite (fun h => ?_) (fun h => ?_))))
    · rw [wr (n := (i : Int) + 1) (by omega)]
      unfold runG
      rw [if_pos (of_decide_eq_true h)]
      exact ih (i + 1) (by omega)
    · unfold runG
      rw [if_neg (fun q => h (decide_eq_true q))]
      exact Ev.now _
theorem run_is (s : ByteArray) (m : Int) (hm : 0 ≤ m) (hs : s.size ≤ 140737488351232) : Ev (fun k => figures_run.f k s m) ((runV s m.toNat : Nat) : Int) := by
  unfold figures_run.f
  exact run_l0 s m hm hs _ 0 (by omega)
theorem value_l0 (s : ByteArray) (L : Int) (hL : 100 ≤ L ∧ L ≤ 18446744073709551615) (hs : s.size ≤ 140737488351232) (hf : ∀ i : Nat, i < s.size → figb (bt s i)) (m : Nat) : ∀ i : Nat, i + m = s.size → nv s i ≤ L →
    Ev (fun k => figures_value.l0 k s L (nv s i) (s.size : Int) i) (if nv s s.size > L then (0, some 5) else (nv s s.size, none)) := by
  induction m with
  | zero =>
    intro i hi hv
    rw [show s.size = i by omega]
    refine Ev.up ?_
    simp only [figures_value.l0]
    rw [if_neg (by omega)]
    exact Ev.neg (by omega) (Ev.now _)
  | succ m ih =>
    intro i hi hv
    have hd := hf i (by omega)
    unfold figb at hd
    have h0 := nv_nonneg s i (fun j hj => hf j (by omega))
    have w1 : (bt s i - 48) % 256 = bt s i - 48 := by omega
    have w2 : IntKind.u64.wrap (Int.tdiv (IntKind.u64.wrap (L - (bt s i - 48))) 10) = (L - (bt s i - 48)) / 10 := by rw [wrap_u64 (L - _), tdiv_is, if_neg (by omega), wrap_u64]; omega
    refine Ev.up ?_
    simp only [figures_value.l0, w1, w2]
    refine Ev.pos (by omega) (Ev.pos (by omega) (Ev.pos (by omega) (Ev.ite (fun h => ?_) (fun h => ?_))))
    · have hm : nv s (i + 1) ≤ nv s s.size := nv_mono s (fun j hj => hf j hj) (by omega)
      simp only [nv] at hm
      rw [if_pos (by omega)]
      exact Ev.now _
    · have w3 : IntKind.u64.wrap (IntKind.u64.wrap (nv s i * 10) + (bt s i - 48)) = nv s (i + 1) := by simp only [nv]; rw [wrap_u64, wrap_u64]; omega
      rw [w3, wr (n := (i : Int) + 1) (by omega)]
      exact ih (i + 1) (by omega) (by simp only [nv]; omega)
theorem value_is (s : ByteArray) (L : Int) (hL : 100 ≤ L ∧ L ≤ 18446744073709551615) (hs : s.size ≤ 140737488351232) (hf : ∀ i : Nat, i < s.size → figb (bt s i)) :
    Ev (fun k => figures_value.f k s L) (if nv s s.size > L then (0, some 5) else (nv s s.size, none)) := by
  unfold figures_value.f
  have := value_l0 s L hL hs hf s.size 0 (by omega) (by simp only [nv]; omega)
  simpa [nv] using this
theorem runV_figs (s : ByteArray) (m : Nat) : ∀ i : Nat, i < runV s m → figb (bt s i) := fun i hi => runG_figs s _ 0 i (by omega) hi
/-- What the figures that a text begins with come to. -/
def takeV (s : ByteArray) (least most L : Int) : Int × Int × Option Int :=
  if least < 1 ∨ least > most ∨ most > 20 then (0, 0, some 1)
  else if (runV s most.toNat : Int) < least then (0, 0, some 2)
  else if nv s (runV s most.toNat) > L then (0, 0, some 5)
  else (nv s (runV s most.toNat), runV s most.toNat, none)
theorem take_is (s : ByteArray) (least most L : Int) (hL : 100 ≤ L ∧ L ≤ 18446744073709551615) (hs : s.size ≤ 140737488351232) : Ev (fun k => figures_take.f k s least most L) (takeV s least most L) := by
  unfold figures_take.f takeV
  have bad : (least < 1 ∨ least > most ∨ most > 20) → Ev (fun k => figures_take.j0 k s least most L true) (if least < 1 ∨ least > most ∨ most > 20 then (0, 0, some 1) else if (runV s most.toNat : Int) < least then (0, 0, some 2) else if nv s (runV s most.toNat) > L then (0, 0, some 5) else (nv s (runV s most.toNat), ((runV s most.toNat : Nat) : Int), none)) := by
    intro h
    rw [if_pos h]
    refine Ev.up ?_
    simp only [figures_take.j0, if_true]
    exact Ev.now _
  refine Ev.ite (fun h => bad (Or.inl h)) (fun h1 => Ev.ite (fun h => bad (Or.inr (Or.inl h))) (fun h2 => ?_))
  by_cases h3 : most > 20
  · rw [decide_eq_true h3]; exact bad (Or.inr (Or.inr h3))
  · rw [decide_eq_false h3, if_neg (by omega)]
    refine Ev.up ?_
    simp only [figures_take.j0, Bool.false_eq_true, if_false]
    refine Ev.bind (run_is s most (by omega) hs) (Ev.ite (fun h => ?_) (fun h => ?_))
    · rw [if_pos h]; exact Ev.now _
    · rw [if_neg h]
      have rb := runV_bd s most.toNat
      have hx : (s.extract 0 ((runV s most.toNat : Nat) : Int).toNat).size = runV s most.toNat := size_extract s _ rb.2
      have hv := value_is (s.extract 0 ((runV s most.toNat : Nat) : Int).toNat) L hL (by rw [hx]; omega) (by
        rw [hx]
        intro i hi
        rw [Int.toNat_natCast, bt_extract s _ i hi rb.2]
        exact runV_figs s _ i hi)
      rw [hx] at hv
      rw [show nv (s.extract 0 ((runV s most.toNat : Nat) : Int).toNat) (runV s most.toNat) = nv s (runV s most.toNat) from nv_extract s _ rb.2 _ (Nat.le_refl _)] at hv
      refine Ev.pos (by omega) (Ev.pos (by omega) (Ev.bind hv ?_))
      by_cases hg : nv s (runV s most.toNat) > L
      · rw [if_pos hg, if_pos hg]; exact Ev.now _
      · rw [if_neg hg, if_neg hg]; exact Ev.now _
theorem sgoing_is (s : ByteArray) (i : Int) (e : Option Int) : scan_Scanner_string_going.f s i e = some (e.isNone, s, i, e) := by
  unfold scan_Scanner_string_going.f
  cases e <;> rfl
theorem tTake_is (s : ByteArray) (least most : Int) (hs : s.size ≤ 140737488351232) : Ev (fun k => figures_Take.f k s least most) (takeV s least most 9223372036854775807) := by
  unfold figures_Take.f
  refine Ev.bind (take_is s least most 9223372036854775807 (by omega) hs) (Ev.cast (Ev.now _) ?_)
  have hI : I64 (takeV s least most 9223372036854775807).1 := by
    unfold takeV I64
    have := nv_nonneg s (runV s most.toNat) (runV_figs s _)
    repeat' split
    all_goals (simp only; omega)
  rw [wrap64_id hI]
/-- Figures taken: the number, the place behind them, the error. -/
def sfigV (l : List Int) (i : Nat) (e : Option Int) (least most : Int) : Int × Int × Option Int :=
  match e with
  | some c => (0, i, some c)
  | none => match takeV (strOfNums (l.drop i)) least most 9223372036854775807 with
    | (n, m, none) => (n, i + m, none)
    | (_, _, some q) => (0, i, some q)
theorem takeV_le (s : ByteArray) (least most L : Int) : 0 ≤ (takeV s least most L).2.1 ∧ (takeV s least most L).2.1 ≤ s.size := by
  have := runV_bd s most.toNat
  unfold takeV
  repeat' split
  all_goals (simp only; omega)
theorem sFigures_is (l : List Int) (hb : Byt l) (i : Nat) (e : Option Int) (least most : Int) (hi : i ≤ l.length) (hl : l.length ≤ 140737488351232) :
    Ev (fun k => scan_Scanner_string_Figures.f k (strOfNums l) i e least most) ((sfigV l i e least most).1, strOfNums l, (sfigV l i e least most).2.1, (sfigV l i e least most).2.2) := by
  unfold scan_Scanner_string_Figures.f
  refine Ev.bindc (sgoing_is _ _ _) ?_
  cases e with
  | some c => exact Ev.neg (by simp) (Ev.now _)
  | none =>
    refine Ev.pos rfl (Ev.bindc (srest_is l i none hi) ?_)
    simp only [leftV_none]
    refine Ev.bind (tTake_is _ least most (by rw [son_size, List.length_drop]; omega)) ?_
    unfold sfigV
    have hle := takeV_le (strOfNums (l.drop i)) least most 9223372036854775807
    rw [son_size, List.length_drop] at hle
    rcases hq : takeV (strOfNums (l.drop i)) least most 9223372036854775807 with ⟨n, m, q⟩
    rw [hq] at hle
    simp only at hle
    cases q with
    | some q => exact Ev.neg (by simp) (Ev.now _)
    | none =>
      obtain ⟨m', rfl⟩ : ∃ m' : Nat, m = (m' : Int) := ⟨m.toNat, by omega⟩
      refine Ev.pos rfl (Ev.bindc (stake_is l i none m' hi hl (by rw [leftV_none, List.length_drop]; omega)) (Ev.cast (Ev.now _) ?_))
      show (n, strOfNums l, ((i + m' : Nat) : Int), (none : Option Int)) = (n, strOfNums l, (i : Int) + m', none)
      rw [show ((i + m' : Nat) : Int) = (i : Int) + m' by omega]
theorem comes_len {r : List Int} {c : Int} (h : comesV r c = true) : 1 ≤ r.length := by
  unfold comesV at h
  cases r with
  | nil => simp at h
  | cons x r => simp
/-- The figures' bytes. -/
def figset : List Int := [48, 49, 50, 51, 52, 53, 54, 55, 56, 57]
theorem figset_byt : Byt figset := by unfold Byt figset; decide
theorem figset_mem (x : Int) : x ∈ figset ↔ 48 ≤ x ∧ x ≤ 57 := by
  unfold figset
  simp only [List.mem_cons, List.mem_nil_iff, or_false]
  omega
def figrun (r : List Int) : List Int := r.takeWhile (fun x => decide (x ∈ figset))
theorem runG_son (t : List Int) (hb : Byt t) (m : Nat) : ∀ i : Nat, i + m = t.length → runG (strOfNums t) i m = i + (figrun (t.drop i)).length := by
  induction m with
  | zero =>
    intro i hi
    rw [List.drop_of_length_le (by omega)]; rfl
  | succ m ih =>
    intro i hi
    have hx := bt_at_son hb (i := i) (by omega)
    unfold runG
    rw [hx, List.drop_eq_getElem_cons (by omega)]
    unfold figrun
    rw [List.takeWhile_cons]
    by_cases h : figb t[i]
    · rw [if_pos h, if_pos (by exact decide_eq_true ((figset_mem _).mpr h)), ih (i + 1) (by omega)]
      unfold figrun
      rw [List.length_cons]; omega
    · rw [if_neg h, if_neg (by simpa using fun q => h ((figset_mem _).mp q))]; rfl
theorem figrun_figs (t : List Int) : ∀ x ∈ figrun t, 48 ≤ x ∧ x ≤ 57 := by
  intro x hx
  have := List.all_eq_true.mp (List.all_takeWhile (p := fun x => decide (x ∈ figset)) (l := t)) x hx
  exact (figset_mem x).mp (of_decide_eq_true this)
theorem figrun_len (t : List Int) : (figrun t).length ≤ t.length := tw_len t
theorem figrun_take (t : List Int) : t.take (figrun t).length = figrun t := tw_take t
/-- The number of a row of figures. -/
def numV (r : List Int) : Int := nv (strOfNums r) r.length
theorem fig_byt {r : List Int} (h : ∀ x ∈ r, 48 ≤ x ∧ x ≤ 57) : Byt r := fun x hx => by have := h x hx; omega
theorem fig_bt {r : List Int} (h : ∀ x ∈ r, 48 ≤ x ∧ x ≤ 57) (i : Nat) (hi : i < r.length) : figb (bt (strOfNums r) i) := by
  rw [bt_at_son (fig_byt h) hi]
  exact h _ (List.getElem_mem hi)
theorem numV_nonneg {r : List Int} (h : ∀ x ∈ r, 48 ≤ x ∧ x ≤ 57) : 0 ≤ numV r := nv_nonneg _ _ (fun i hi => fig_bt h i hi)
theorem numV_lt {r : List Int} (h : ∀ x ∈ r, 48 ≤ x ∧ x ≤ 57) : numV r < 10 ^ r.length := nv_lt _ _ (fun i hi => fig_bt h i hi)
theorem figrun_self {r : List Int} (h : ∀ x ∈ r, 48 ≤ x ∧ x ≤ 57) : figrun r = r := by
  unfold figrun
  apply tw_all
  intro x hx
  exact decide_eq_true ((figset_mem x).mpr (h x hx))
theorem figrun_pre {r : List Int} (h : ∀ x ∈ r, 48 ≤ x ∧ x ≤ 57) (rest : List Int) (hs : ¬ (48 ≤ rest.headD 0 ∧ rest.headD 0 ≤ 57)) : figrun (r ++ rest) = r := by
  unfold figrun
  rw [List.takeWhile_append_of_pos (fun x hx => decide_eq_true ((figset_mem x).mpr (h x hx)))]
  cases rest with
  | nil => simp
  | cons x rest =>
    rw [List.takeWhile_cons, if_neg (by simpa using fun q => hs ((figset_mem x).mp q)), List.append_nil]
theorem numV_pre {r : List Int} (h : ∀ x ∈ r, 48 ≤ x ∧ x ≤ 57) (rest : List Int) (hb : Byt rest) : nv (strOfNums (r ++ rest)) r.length = numV r := by
  have hbr := fig_byt h
  have hba : Byt (r ++ rest) := fun x hx => (List.mem_append.mp hx).elim (hbr x) (hb x)
  unfold numV
  rw [nv_son _ hba _ (by simp), nv_son _ hbr _ (Nat.le_refl _), List.take_left, List.take_length]
theorem takeV_pre {r : List Int} (h : ∀ x ∈ r, 48 ≤ x ∧ x ≤ 57) (rest : List Int) (hb : Byt rest) (hs : ¬ (48 ≤ rest.headD 0 ∧ rest.headD 0 ≤ 57)) (least most : Int) (h1 : 1 ≤ least) (h2 : least ≤ most) (h3 : most ≤ 18) (h4 : least ≤ r.length) (h5 : (r.length : Int) ≤ most) :
    takeV (strOfNums (r ++ rest)) least most 9223372036854775807 = (numV r, (r.length : Int), none) := by
  have hba : Byt (r ++ rest) := fun x hx => (List.mem_append.mp hx).elim (fig_byt h x) (hb x)
  have hr : runV (strOfNums (r ++ rest)) most.toNat = r.length := by
    rw [runV_min, son_size, runG_son _ hba _ 0 (by omega), List.drop_zero, figrun_pre h rest hs]; omega
  have hlt := numV_lt h
  have hp : (10 : Int) ^ r.length ≤ 10 ^ 18 := by exact_mod_cast Nat.pow_le_pow_right (by decide) (show r.length ≤ 18 by omega)
  have e18 : (10 : Int) ^ 18 = 1000000000000000000 := by decide
  unfold takeV
  rw [if_neg (by omega), hr, if_neg (by omega), numV_pre h rest hb, if_neg (by omega)]
theorem numV_raw (n w : Nat) : numV (rawV n w) = n := by unfold numV; exact (raw_read n w).2
theorem sfig_pre (l : List Int) (i : Nat) {r : List Int} (h : ∀ x ∈ r, 48 ≤ x ∧ x ≤ 57) (rest : List Int) (hl : l.drop i = r ++ rest) (hb : Byt rest) (hs : ¬ (48 ≤ rest.headD 0 ∧ rest.headD 0 ≤ 57)) (least most : Int) (h1 : 1 ≤ least) (h2 : least ≤ most) (h3 : most ≤ 18) (h4 : least ≤ r.length) (h5 : (r.length : Int) ≤ most) :
    sfigV l i none least most = (numV r, ((i + r.length : Nat) : Int), none) := by
  unfold sfigV
  simp only [hl]
  rw [takeV_pre h rest hb hs least most h1 h2 h3 h4 h5]
  simp only []
  congr 2
theorem takeV_bd (s : ByteArray) (least most L : Int) (hL : 0 ≤ L) : 0 ≤ (takeV s least most L).1 ∧ (takeV s least most L).1 ≤ L := by
  unfold takeV
  have := nv_nonneg s (runV s most.toNat) (runV_figs s _)
  repeat' split
  all_goals (simp only; omega)
theorem sfigV_some (l : List Int) (i : Nat) (e : Option Int) (least most : Int) (hi : i ≤ l.length) (hm : 0 ≤ most) : ∃ (n : Int) (j : Nat) (e' : Option Int), sfigV l i e least most = (n, (j : Int), e') ∧ j ≤ l.length ∧ 0 ≤ n ∧ n < 10 ^ most.toNat := by
  have hp : (0 : Int) < 10 ^ most.toNat := Int.pow_pos (by decide)
  cases e with
  | some c => exact ⟨0, i, some c, rfl, hi, by decide, hp⟩
  | none =>
    have hle := takeV_le (strOfNums (l.drop i)) least most 9223372036854775807
    have hv := takeV_bd (strOfNums (l.drop i)) least most 9223372036854775807 (by decide)
    have hn : (takeV (strOfNums (l.drop i)) least most 9223372036854775807).1 < 10 ^ most.toNat := by
      have b := runV_bd (strOfNums (l.drop i)) most.toNat
      have h1 := nv_lt (strOfNums (l.drop i)) (runV (strOfNums (l.drop i)) most.toNat) (runV_figs _ _)
      have h2 : (10 : Int) ^ (runV (strOfNums (l.drop i)) most.toNat) ≤ 10 ^ most.toNat := by exact_mod_cast Nat.pow_le_pow_right (by decide) b.1
      unfold takeV
      repeat' split
      all_goals (simp only; omega)
    rw [son_size, List.length_drop] at hle
    unfold sfigV
    rcases hq : takeV (strOfNums (l.drop i)) least most 9223372036854775807 with ⟨n, m, q⟩
    rw [hq] at hle hv hn
    simp only at hle hv hn
    cases q with
    | some q => exact ⟨0, i, some q, rfl, hi, by decide, hp⟩
    | none => exact ⟨n, i + m.toNat, none, by simp only; congr 2; omega, by omega, hv.1, hn⟩
theorem numV_lv {r : List Int} (h : ∀ x ∈ r, 48 ≤ x ∧ x ≤ 57) : numV r = lv r := by
  unfold numV
  rw [nv_son _ (fig_byt h) _ (Nat.le_refl _), List.take_length]
/-- Figures are the text of their number, with noughts ahead. -/
theorem fig_canon (n : Nat) : ∀ r : List Int, r.length = n → (∀ x ∈ r, 48 ≤ x ∧ x ≤ 57) → (digs (lv r).toNat).length ≤ r.length ∧ 0 ≤ lv r ∧ r = List.replicate (r.length - (digs (lv r).toNat).length) 48 ++ (digs (lv r).toNat).reverse := by
  induction n with
  | zero =>
    intro r hn h
    obtain rfl : r = [] := List.eq_nil_of_length_eq_zero hn
    rw [show lv [] = 0 from rfl, show (0 : Int).toNat = 0 from rfl, digs_zero]
    exact ⟨Nat.le_refl _, by decide, rfl⟩
  | succ n ih =>
    intro r hn h
    obtain ⟨q, d, rfl⟩ : ∃ q d, r = q ++ [d] := by
      rcases List.eq_nil_or_concat r with e | ⟨q, d, e⟩
      · rw [e] at hn; simp at hn
      · exact ⟨q, d, by rw [e]; simp⟩
    have hq : q.length = n := by simp at hn; omega
    obtain ⟨i1, i2, i3⟩ := ih q hq (fun x hx => h x (List.mem_append_left _ hx))
    have hd := h d (List.mem_append_right _ (List.mem_cons_self ..))
    rw [lv_snoc]
    by_cases h0 : lv q * 10 + (d - 48) = 0
    · have hl : lv q = 0 := by omega
      have e : d = 48 := by omega
      rw [hl] at i3
      rw [h0, show (0 : Int).toNat = 0 from rfl, digs_zero]
      rw [show (0 : Int).toNat = 0 from rfl, digs_zero] at i3
      simp only [List.length_nil, Nat.sub_zero, List.reverse_nil, List.append_nil] at i3 ⊢
      refine ⟨Nat.zero_le _, by decide, ?_⟩
      rw [e, List.length_append, show q.length + [(48 : Int)].length = q.length + 1 from rfl, List.replicate_succ', ← i3]
    · rw [show (lv q * 10 + (d - 48)).toNat = (lv q).toNat * 10 + (d - 48).toNat by omega]
      rw [digs_pos (by omega), show ((lv q).toNat * 10 + (d - 48).toNat) / 10 = (lv q).toNat by omega, show (48 : Int) + (((lv q).toNat * 10 + (d - 48).toNat : Nat) : Int) % 10 = d by omega]
      generalize digs (lv q).toNat = D at *
      refine ⟨by simp; omega, by omega, ?_⟩
      rw [List.reverse_cons, ← List.append_assoc, show (q ++ [d]).length - (d :: D).length = q.length - D.length by simp, ← i3]
theorem raw_num {r : List Int} (h : ∀ x ∈ r, 48 ≤ x ∧ x ≤ 57) (w : Nat) (hw : 1 ≤ w) (hl : r.length = w ∨ (w ≤ r.length ∧ r.headD 0 ≠ 48)) : rawV (numV r).toNat w = r := by
  obtain ⟨a, b, c⟩ := fig_canon r.length r rfl h
  rw [numV_lv h]
  unfold rawV
  generalize digs (lv r).toNat = D at *
  rcases hl with hl | ⟨h1, h2⟩
  · rw [show max w 1 - D.length = r.length - D.length by omega]; exact c.symm
  · have e : r.length - D.length = 0 := by
      rcases Nat.eq_zero_or_pos (r.length - D.length) with e | e
      · exact e
      · exfalso
        obtain ⟨m, hm⟩ : ∃ m, r.length - D.length = m + 1 := ⟨r.length - D.length - 1, by omega⟩
        rw [hm, List.replicate_succ] at c
        rw [c] at h2
        exact h2 rfl
    rw [e] at c
    rw [show max w 1 - D.length = 0 by omega]; exact c.symm
theorem figrun_full {r : List Int} (h : (figrun r).length = r.length) : figrun r = r := (List.takeWhile_prefix _).eq_of_length h
theorem run_son {r : List Int} (hb : Byt r) (m : Nat) : runV (strOfNums r) m = min (figrun r).length m := by
  rw [runV_min, son_size, runG_son r hb _ 0 (by omega), List.drop_zero]; omega
def mayR (kind mo wk d : Int) : Prop := (kind = 1 ∧ 1 ≤ d ∧ d ≤ 365 ∧ mo = 0 ∧ wk = 0) ∨ (kind = 2 ∧ 0 ≤ d ∧ d ≤ 365 ∧ mo = 0 ∧ wk = 0) ∨ (kind = 3 ∧ 1 ≤ mo ∧ mo ≤ 12 ∧ 1 ≤ wk ∧ wk ≤ 5 ∧ 0 ≤ d ∧ d ≤ 6)
instance (kind mo wk d : Int) : Decidable (mayR kind mo wk d) := inferInstanceAs (Decidable (_ ∨ _ ∨ _))
def timeR (t : Int) : Prop := -604799 ≤ t ∧ t ≤ 604799
instance (t : Int) : Decidable (timeR t) := inferInstanceAs (Decidable (_ ∧ _))
/-- What is wrong with a rule. -/
def chkV (kind mo wk d t : Int) : Option Int := if 1 ≤ kind ∧ kind ≤ 3 then (if mayR kind mo wk d ∧ timeR t then none else some 1) else some 11
theorem chkV_err (kind mo wk d t : Int) : chkV kind mo wk d t ≠ some 0 := by
  unfold chkV
  repeat' split
  all_goals simp
theorem chkV_none {kind mo wk d t : Int} (h : chkV kind mo wk d t = none) : mayR kind mo wk d ∧ timeR t := by
  unfold chkV at h
  by_cases h1 : 1 ≤ kind ∧ kind ≤ 3
  · rw [if_pos h1] at h
    by_cases h2 : mayR kind mo wk d ∧ timeR t
    · exact h2
    · rw [if_neg h2] at h; cases h
  · rw [if_neg h1] at h; cases h
theorem in_is (x a b : Int) : rule_in.f x a b = some (decide (a ≤ x ∧ x ≤ b)) := by
  unfold rule_in.f
  by_cases h : x ≥ a
  · rw [if_pos h]; congr 1; exact decide_eq_decide.mpr ⟨fun q => ⟨h, q⟩, fun q => q.2⟩
  · rw [if_neg h]; congr 1; exact (decide_eq_false (fun q => h q.1)).symm
theorem may_is (kind mo wk d t : Int) (hk : 1 ≤ kind ∧ kind ≤ 3) : rule_Rule_may.f kind mo wk d t = some (decide (mayR kind mo wk d)) := by
  unfold rule_Rule_may.f
  by_cases h1 : kind = 1
  · rw [if_pos h1, in_is]
    simp only [Option.bind_some]
    by_cases h2 : 1 ≤ d ∧ d ≤ 365
    · rw [if_pos (decide_eq_true h2)]
      by_cases h3 : mo = 0
      · rw [if_pos h3]; congr 1
        rw [Bool.eq_iff_iff, beq_iff_eq, decide_eq_true_iff]
        unfold mayR; constructor
        · intro q; omega
        · intro q; omega
      · rw [if_neg h3]; congr 1; exact (decide_eq_false (fun q => by unfold mayR at q; omega)).symm
    · rw [if_neg (by simpa using h2)]; congr 1; exact (decide_eq_false (fun q => by unfold mayR at q; omega)).symm
  · rw [if_neg h1]
    by_cases h4 : kind = 2
    · rw [if_pos h4, in_is]
      simp only [Option.bind_some]
      by_cases h2 : 0 ≤ d ∧ d ≤ 365
      · rw [if_pos (decide_eq_true h2)]
        by_cases h3 : mo = 0
        · rw [if_pos h3]; congr 1
          rw [Bool.eq_iff_iff, beq_iff_eq, decide_eq_true_iff]
          unfold mayR; constructor
          · intro q; omega
          · intro q; omega
        · rw [if_neg h3]; congr 1; exact (decide_eq_false (fun q => by unfold mayR at q; omega)).symm
      · rw [if_neg (by simpa using h2)]; congr 1; exact (decide_eq_false (fun q => by unfold mayR at q; omega)).symm
    · rw [if_neg h4, in_is]
      simp only [Option.bind_some]
      by_cases h2 : 1 ≤ mo ∧ mo ≤ 12
      · rw [if_pos (decide_eq_true h2), in_is]
        simp only [Option.bind_some]
        by_cases h3 : 1 ≤ wk ∧ wk ≤ 5
        · rw [if_pos (decide_eq_true h3), in_is]
          simp only [Option.bind_some]
          congr 1
          apply decide_eq_decide.mpr
          unfold mayR; constructor
          · intro q; omega
          · intro q; omega
        · rw [if_neg (by simpa using h3)]; congr 1; exact (decide_eq_false (fun q => by unfold mayR at q; omega)).symm
      · rw [if_neg (by simpa using h2)]; congr 1; exact (decide_eq_false (fun q => by unfold mayR at q; omega)).symm
theorem chk_is (kind mo wk d t : Int) : rule_Check.f kind mo wk d t = some (chkV kind mo wk d t) := by
  unfold rule_Check.f chkV
  rw [in_is]
  simp only [Option.bind_some]
  by_cases hk : 1 ≤ kind ∧ kind ≤ 3
  · rw [if_pos (decide_eq_true hk), if_pos hk, may_is kind mo wk d t hk]
    simp only [Option.bind_some]
    by_cases hm : mayR kind mo wk d
    · rw [if_pos (decide_eq_true hm), in_is]
      simp only [Option.bind_some]
      by_cases ht : timeR t
      · rw [if_pos (decide_eq_true (show -604799 ≤ t ∧ t ≤ 604799 from ht)), if_pos ⟨hm, ht⟩]
      · rw [if_neg (by rw [decide_eq_true_iff]; exact ht), if_neg (fun q => ht q.2)]
    · rw [if_neg (by simpa using hm), if_neg (fun q => hm q.1)]
  · rw [if_neg (by simpa using hk), if_neg hk]
/-- What stands between signs. -/
def spl (c : Int) : List Int → List (List Int)
  | [] => [[]]
  | x :: t => if x = c then [] :: spl c t else (match spl c t with | [] => [[x]] | a :: r => (x :: a) :: r)
theorem spl_at (c x : Int) (t : List Int) : spl c (x :: t) = if x = c then [] :: spl c t else (match spl c t with | [] => [[x]] | a :: r => (x :: a) :: r) := rfl
def into (cur : List Int) (L : List (List Int)) : List (List Int) := match L with | [] => [cur] | a :: r => (cur ++ a) :: r
theorem spl_some (c : Int) (t : List Int) : ∃ a r, spl c t = a :: r := by
  cases t with
  | nil => exact ⟨_, _, rfl⟩
  | cons x t =>
    unfold spl
    split
    · exact ⟨_, _, rfl⟩
    · split <;> exact ⟨_, _, rfl⟩
theorem into_nil (c : Int) (t : List Int) : into [] (spl c t) = spl c t := by
  obtain ⟨a, r, h⟩ := spl_some c t
  rw [h]; rfl
theorem into_cons (c x : Int) (cur t : List Int) : into cur (spl c (x :: t)) = if x = c then cur :: spl c t else into (cur ++ [x]) (spl c t) := by
  obtain ⟨a, r, h⟩ := spl_some c t
  by_cases e : x = c
  · rw [if_pos e, spl_at, if_pos e]
    simp [into]
  · rw [if_neg e, spl_at, if_neg e, h]
    simp [into]
def tw (c : Int) (t : List Int) : List Int := t.takeWhile (fun x => x != c)
theorem tw_le (c : Int) (t : List Int) : (tw c t).length ≤ t.length := (List.takeWhile_prefix _).length_le
theorem tw_pre (c : Int) (t : List Int) : t = tw c t ++ t.drop (tw c t).length := by
  conv => lhs; rw [← List.take_append_drop (tw c t).length t]
  congr 1
  exact (List.prefix_iff_eq_take.mp (List.takeWhile_prefix _)).symm
theorem tw_mem {c : Int} {t : List Int} {x : Int} (h : x ∈ tw c t) : x ≠ c := by
  have := List.all_eq_true.mp (List.all_takeWhile (p := fun x => x != c) (l := t)) x h
  simpa using this
/-- The sign stands behind what is ahead of it. -/
theorem tw_sign (c : Int) (t : List Int) (h : (tw c t).length ≠ t.length) : t.drop (tw c t).length = c :: t.drop ((tw c t).length + 1) := by
  induction t with
  | nil => exact absurd rfl h
  | cons x t ih =>
    unfold tw at *
    rw [List.takeWhile_cons] at *
    by_cases e : x = c
    · rw [if_neg (by simpa using e)]; rw [e]; rfl
    · rw [if_pos (by simpa using e)] at h ⊢
      rw [List.length_cons, List.drop_succ_cons, List.drop_succ_cons]
      exact ih (by simpa using h)
theorem spl_step (c : Int) (t : List Int) : spl c t = if (tw c t).length = t.length then [tw c t] else tw c t :: spl c (t.drop ((tw c t).length + 1)) := by
  induction t with
  | nil => rfl
  | cons x t ih =>
    by_cases e : x = c
    · have h0 : tw c (x :: t) = [] := by unfold tw; rw [List.takeWhile_cons, if_neg (by simpa using e)]
      rw [h0, spl_at, if_pos e, if_neg (by simp)]; rfl
    · have h1 : tw c (x :: t) = x :: tw c t := by unfold tw; rw [List.takeWhile_cons, if_pos (by simpa using e)]
      rw [h1, spl_at, if_neg e, ih]
      by_cases g : (tw c t).length = t.length
      · rw [if_pos g, if_pos (by simp [g])]
      · rw [if_neg g, if_neg (by simpa using g)]; rfl
def numOk (r : List Int) (a b : Int) : Prop := a ≤ (r.length : Int) ∧ (r.length : Int) ≤ b ∧ figrun r = r
instance (r : List Int) (a b : Int) : Decidable (numOk r a b) := inferInstanceAs (Decidable (_ ∧ _ ∧ _))
theorem numOk_figs {r : List Int} {a b : Int} (h : numOk r a b) : ∀ x ∈ r, 48 ≤ x ∧ x ≤ 57 := by
  rw [← h.2.2]; exact figrun_figs r
/-- The seconds of a text's parts. -/
def clkV (L : List (List Int)) (most sg : Int) : Int × Option Int := match L with
  | [H] => if numOk H 1 3 then (if numV H > most then (0, some 1) else (sg * (numV H * 3600), none)) else (0, some 2)
  | [H, M] => if numOk H 1 3 ∧ numOk M 2 2 then (if numV H > most ∨ numV M > 59 then (0, some 1) else (sg * (numV H * 3600 + numV M * 60), none)) else (0, some 2)
  | [H, M, R] => if numOk H 1 3 ∧ numOk M 2 2 ∧ numOk R 2 2 then (if numV H > most ∨ numV M > 59 ∨ numV R > 59 then (0, some 1) else (sg * (numV H * 3600 + numV M * 60 + numV R), none)) else (0, some 2)
  | _ => (0, some 2)
theorem clk_bad0 (H : List Int) (r : List (List Int)) (most sg : Int) (h : ¬ numOk H 1 3) : clkV (H :: r) most sg = (0, some 2) := by
  match r with
  | [] => exact if_neg h
  | [M] => exact if_neg (fun q => h q.1)
  | [M, R] => exact if_neg (fun q => h q.1)
  | M :: R :: Q :: r => rfl
theorem clk_bad1 (H M : List Int) (r : List (List Int)) (most sg : Int) (h : ¬ numOk M 2 2) : clkV (H :: M :: r) most sg = (0, some 2) := by
  match r with
  | [] => exact if_neg (fun q => h q.2)
  | [R] => exact if_neg (fun q => h q.2.1)
  | R :: Q :: r => rfl
theorem clk_bad2 (H M R : List Int) (r : List (List Int)) (most sg : Int) (h : ¬ numOk R 2 2) : clkV (H :: M :: R :: r) most sg = (0, some 2) := by
  match r with
  | [] => exact if_neg (fun q => h q.2.2)
  | Q :: r => rfl
theorem clk_long (H M R Q : List Int) (r : List (List Int)) (most sg : Int) : clkV (H :: M :: R :: Q :: r) most sg = (0, some 2) := rfl
theorem clkV_err (L : List (List Int)) (most sg : Int) : (clkV L most sg).2 ≠ some 0 := by
  unfold clkV
  repeat' split
  all_goals simp
theorem numOk_bd {r : List Int} {a b : Int} (h : numOk r a b) : 0 ≤ numV r ∧ (b = 3 → numV r ≤ 999) ∧ (b = 2 → numV r ≤ 99) := by
  have f := numOk_figs h
  have l := numV_lt f
  refine ⟨numV_nonneg f, fun q => ?_, fun q => ?_⟩
  · have hp : (10 : Int) ^ r.length ≤ 10 ^ 3 := by exact_mod_cast Nat.pow_le_pow_right (by decide) (show r.length ≤ 3 by have := h.2.1; omega)
    have e : (10 : Int) ^ 3 = 1000 := by decide
    omega
  · have hp : (10 : Int) ^ r.length ≤ 10 ^ 2 := by exact_mod_cast Nat.pow_le_pow_right (by decide) (show r.length ≤ 2 by have := h.2.1; omega)
    have e : (10 : Int) ^ 2 = 100 := by decide
    omega
/-- The sign that a text begins with: what it says, and how many bytes it has. -/
def sgV (l : List Int) : Int := if l.headD 0 = 45 then -1 else 1
def siV (l : List Int) : Nat := if l.headD 0 = 45 ∨ l.headD 0 = 43 then 1 else 0
def clockP (l : List Int) (most : Int) : Int × Option Int := if 0 ≤ most ∧ most ≤ 999 then clkV (spl 58 (l.drop (siV l))) most (sgV l) else (0, some 1)
theorem clockP_err (l : List Int) (most : Int) : (clockP l most).2 ≠ some 0 := by
  unfold clockP
  split
  · exact clkV_err _ _ _
  · simp
/-- Where a scanner stands so that it can't go on, and isn't at the end. -/
def Stuck (l : List Int) (j : Nat) (e : Option Int) (c : Int) : Prop := comesV (leftV l j e) c = false ∧ endV l j e ≠ none
theorem tw_drop_head (c : Int) (t : List Int) : ∀ x, (t.drop (tw c t).length).head? = some x → x = c := by
  intro x hx
  by_cases h : (tw c t).length = t.length
  · rw [h, List.drop_length] at hx; cases hx
  · rw [tw_sign c t h] at hx
    exact (Option.some.inj hx).symm
theorem fld_ok (l : List Int) (hb : Byt l) (i : Nat) (c : Int) (hc : ¬ (48 ≤ c ∧ c ≤ 57)) (least most : Int) (h1 : 1 ≤ least) (h2 : least ≤ most) (h3 : most ≤ 18) (h : numOk (tw c (l.drop i)) least most) :
    sfigV l i none least most = (numV (tw c (l.drop i)), ((i + (tw c (l.drop i)).length : Nat) : Int), none) := by
  refine sfig_pre l i (numOk_figs h) _ (tw_pre c (l.drop i)) ((hb.drop i).drop _) ?_ least most h1 h2 h3 h.1 h.2.1
  have hd := tw_drop_head c (l.drop i)
  generalize (l.drop i).drop (tw c (l.drop i)).length = rest at *
  cases rest with
  | nil => show ¬ (48 ≤ (0 : Int) ∧ (0 : Int) ≤ 57); omega
  | cons x rest =>
    have := hd x rfl
    show ¬ (48 ≤ x ∧ x ≤ 57)
    rw [this]; exact hc
theorem tw_get {p : Int → Bool} {t : List Int} {r : Nat} (h : r < (t.takeWhile p).length) (h2 : r < t.length) : p t[r] = true := by
  have hm := List.getElem_mem (l := t.takeWhile p) h
  have hq := List.all_eq_true.mp (List.all_takeWhile (p := p) (l := t)) _ hm
  rw [(List.takeWhile_prefix p).getElem h] at hq
  exact hq
theorem run_tw (c : Int) (hc : ¬ (48 ≤ c ∧ c ≤ 57)) (t : List Int) : (figrun t).length ≤ (tw c t).length ∧ ((figrun t).length = (tw c t).length → figrun (tw c t) = tw c t) := by
  have hpre : tw c t = figrun t ++ (tw c t).drop (figrun t).length ∧ (figrun t).length ≤ (tw c t).length := by
    induction t with
    | nil => exact ⟨rfl, Nat.le_refl _⟩
    | cons x t ih =>
      unfold figrun tw at *
      rw [List.takeWhile_cons, List.takeWhile_cons]
      by_cases hx : x ∈ figset
      · have hf := (figset_mem x).mp hx
        rw [if_pos (decide_eq_true hx), if_pos (by simp only [bne_iff_ne, ne_eq]; intro q; exact hc (q ▸ hf))]
        refine ⟨?_, by simpa using ih.2⟩
        rw [List.length_cons, List.drop_succ_cons, List.cons_append, ← ih.1]
      · rw [if_neg (show ¬ (decide (x ∈ figset) = true) by simpa using hx)]
        exact ⟨by simp, by simp⟩
  refine ⟨hpre.2, fun h => ?_⟩
  have e : tw c t = figrun t := by
    rw [h, List.drop_length, List.append_nil] at hpre
    exact hpre.1
  rw [e]
  exact figrun_self (figrun_figs t)
theorem fld_not (l : List Int) (hb : Byt l) (i : Nat) (hi : i ≤ l.length) (c : Int) (hc : ¬ (48 ≤ c ∧ c ≤ 57)) (least most : Int) (h1 : 1 ≤ least) (h2 : least ≤ most) (h3 : most ≤ 18) (h : ¬ numOk (tw c (l.drop i)) least most) :
    ∃ (n : Int) (j : Nat) (e : Option Int), sfigV l i none least most = (n, (j : Int), e) ∧ j ≤ l.length ∧ Stuck l j e c ∧ 0 ≤ n ∧ n < 10 ^ most.toNat := by
  obtain ⟨n, j, e, hs, hj, hn0, hn1⟩ := sfigV_some l i none least most hi (by omega)
  refine ⟨n, j, e, hs, hj, ?_, hn0, hn1⟩
  cases e with
  | some q => exact ⟨rfl, by simp [endV]⟩
  | none =>
    have bd := hb.drop i
    have hr := run_son bd most.toNat
    obtain ⟨w1, w2⟩ := run_tw c hc (l.drop i)
    have wl := tw_le c (l.drop i)
    have fl := figrun_len (l.drop i)
    have hlen : (l.drop i).length = l.length - i := List.length_drop
    -- what was taken
    have hjr : j = i + runV (strOfNums (l.drop i)) most.toNat := by
      unfold sfigV at hs
      unfold takeV at hs
      rw [if_neg (by omega)] at hs
      by_cases g : (runV (strOfNums (l.drop i)) most.toNat : Int) < least
      · rw [if_pos g] at hs
        simp only [Prod.mk.injEq] at hs
        exact absurd hs.2.2 (by simp)
      · rw [if_neg g] at hs
        by_cases g2 : nv (strOfNums (l.drop i)) (runV (strOfNums (l.drop i)) most.toNat) > 9223372036854775807
        · rw [if_pos g2] at hs
          simp only [Prod.mk.injEq] at hs
          exact absurd hs.2.2 (by simp)
        · rw [if_neg g2] at hs
          simp only [Prod.mk.injEq] at hs
          omega
    have hge : least ≤ (runV (strOfNums (l.drop i)) most.toNat : Int) := by
      unfold sfigV takeV at hs
      rw [if_neg (by omega)] at hs
      by_cases g : (runV (strOfNums (l.drop i)) most.toNat : Int) < least
      · rw [if_pos g] at hs
        simp only [Prod.mk.injEq] at hs
        exact absurd hs.2.2 (by simp)
      · omega
    rw [hr] at hjr hge
    have next : ∃ hlt : min (figrun (l.drop i)).length most.toNat < (l.drop i).length, (l.drop i)[min (figrun (l.drop i)).length most.toNat] ≠ c := by
      by_cases g : most.toNat < (figrun (l.drop i)).length
      · have hlt : min (figrun (l.drop i)).length most.toNat < (l.drop i).length := by omega
        refine ⟨hlt, ?_⟩
        have := tw_get (p := fun x => decide (x ∈ figset)) (t := l.drop i) (r := min (figrun (l.drop i)).length most.toNat) (by show _ < (figrun (l.drop i)).length; omega) hlt
        have hf := (figset_mem _).mp (of_decide_eq_true this)
        intro q
        rw [q] at hf
        exact hc hf
      · have hne : (figrun (l.drop i)).length ≠ (tw c (l.drop i)).length := by
          intro q
          exact h ⟨by omega, by omega, w2 q⟩
        have hlt : min (figrun (l.drop i)).length most.toNat < (l.drop i).length := by omega
        refine ⟨hlt, ?_⟩
        have := tw_get (p := fun x => x != c) (t := l.drop i) (r := min (figrun (l.drop i)).length most.toNat) (by show _ < (tw c (l.drop i)).length; omega) hlt
        simpa using this
    obtain ⟨hlt, hne⟩ := next
    have hjl : j < l.length := by omega
    have hg : l[j] ≠ c := by
      rw [List.getElem_drop] at hne
      intro q
      apply hne
      rw [← q]
      congr 1
      exact hjr.symm
    refine ⟨?_, ?_⟩
    · rw [leftV_none, List.drop_eq_getElem_cons hjl]
      unfold comesV
      rw [List.head?_cons]
      simpa using hg
    · unfold endV
      simp only
      rw [if_pos hjl]; simp
theorem part_no (l : List Int) (hb : Byt l) (j : Nat) (e : Option Int) (hj : j ≤ l.length) (hl : l.length ≤ 100000) (h : comesV (leftV l j e) 58 = false) : Ev (fun k => rule_part.f k (strOfNums l) j e) (0, false, strOfNums l, (j : Int), e) := by
  unfold rule_part.f
  have t := sTake_is l hb j e 58 hj (by omega)
  rw [h] at t
  exact Ev.bindc t (Ev.neg (by simp) (Ev.now _))
theorem part_yes (l : List Int) (hb : Byt l) (j : Nat) (hj : j + 1 ≤ l.length) (hl : l.length ≤ 100000) (h : comesV (leftV l j none) 58 = true) {n : Int} {j2 : Nat} {e : Option Int} (hs : sfigV l (j + 1) none 2 2 = (n, (j2 : Int), e)) : Ev (fun k => rule_part.f k (strOfNums l) j none) (n, true, strOfNums l, (j2 : Int), e) := by
  unfold rule_part.f
  have t := sTake_is l hb j none 58 (by omega) (by omega)
  rw [h] at t
  have f := sFigures_is l hb (j + 1) none 2 2 hj (by omega)
  rw [hs] at f
  exact Ev.bindc t (Ev.pos rfl (Ev.bind f (Ev.now _)))
theorem pj1_bad (l : List Int) (most h m r : Int) (b : Bool) (j : Nat) (e : Option Int) (hj : j ≤ l.length) (hs : endV l j e ≠ none) : Ev (fun k => rule_ParseClock.j1 k most b h m r (strOfNums l) j e) (0, some 2) := by
  refine Ev.up ?_
  simp only [rule_ParseClock.j1]
  refine Ev.bindc (sEnd_is l j e hj) (Ev.neg ?_ (Ev.now _))
  intro q
  apply hs
  cases hq : endV l j e with
  | none => rfl
  | some c => rw [hq] at q; cases q
theorem pj1_end (l : List Int) (most h m r : Int) (b : Bool) (j : Nat) (hj : j = l.length) (hh : 0 ≤ h ∧ h ≤ 999) (hm : 0 ≤ m ∧ m ≤ 99) (hr : 0 ≤ r ∧ r ≤ 99) :
    Ev (fun k => rule_ParseClock.j1 k most b h m r (strOfNums l) j none) (if h > most ∨ m > 59 ∨ r > 59 then (0, some 1) else ((if b = true then -1 else 1) * (h * 3600 + m * 60 + r), none)) := by
  have he : endV l j none = none := by unfold endV; simp only; rw [if_neg (by omega)]
  have t := sEnd_is l j none (by omega)
  rw [he] at t
  have bad : (h > most ∨ m > 59 ∨ r > 59) → Ev (fun k => rule_ParseClock.j2 k b h m r true) (if h > most ∨ m > 59 ∨ r > 59 then (0, some 1) else ((if b = true then -1 else 1) * (h * 3600 + m * 60 + r), none)) := by
    intro q
    rw [if_pos q]
    refine Ev.up ?_
    simp only [rule_ParseClock.j2, if_true]
    exact Ev.now _
  refine Ev.up ?_
  simp only [rule_ParseClock.j1]
  refine Ev.bindc t (Ev.pos rfl (Ev.ite (fun q => bad (Or.inl q)) (fun q1 => Ev.ite (fun q => bad (Or.inr (Or.inl (by omega)))) (fun q2 => ?_))))
  by_cases q3 : r ≥ 60
  · rw [decide_eq_true q3]; exact bad (Or.inr (Or.inr (by omega)))
  · rw [decide_eq_false q3, if_neg (by omega)]
    refine Ev.up ?_
    simp only [rule_ParseClock.j2, Bool.false_eq_true, if_false]
    rw [show wrap64 (h * 3600) = h * 3600 from wr (by omega), show wrap64 (m * 60) = m * 60 from wr (by omega), show wrap64 (h * 3600 + m * 60) = h * 3600 + m * 60 from wr (by omega), show wrap64 (h * 3600 + m * 60 + r) = h * 3600 + m * 60 + r from wr (by omega), show wrap64 (-(h * 3600 + m * 60 + r)) = -(h * 3600 + m * 60 + r) from wr (by omega)]
    cases b with
    | true => exact Ev.pos rfl (Ev.cast (Ev.now _) (by simp))
    | false => exact Ev.neg (by decide) (Ev.cast (Ev.now _) (by simp))
theorem comes_at (l : List Int) (j : Nat) (c : Int) (r : List Int) (h : l.drop j = c :: r) : comesV (leftV l j none) c = true := by
  rw [leftV_none, h]
  simp [comesV]
theorem comes_end (l : List Int) (j : Nat) (c : Int) (h : l.length ≤ j) : comesV (leftV l j none) c = false := by
  rw [leftV_none, List.drop_of_length_le h]; rfl
theorem pj0_is (l : List Int) (hb : Byt l) (hl : l.length ≤ 100000) (most : Int) (b : Bool) (i : Nat) (hi : i ≤ l.length) : Ev (fun k => rule_ParseClock.j0 k most b (strOfNums l) i none) (clkV (spl 58 (l.drop i)) most (if b = true then -1 else 1)) := by
  have hc : ¬ (48 ≤ (58 : Int) ∧ (58 : Int) ≤ 57) := by decide
  have f1 := sFigures_is l hb i none 1 3 hi (by omega)
  have dl : (l.drop i).length = l.length - i := List.length_drop
  have al := tw_le 58 (l.drop i)
  refine Ev.up ?_
  simp only [rule_ParseClock.j0]
  by_cases o1 : numOk (tw 58 (l.drop i)) 1 3
  · rw [fld_ok l hb i 58 hc 1 3 (by decide) (by decide) (by decide) o1] at f1
    obtain ⟨n1, n1b, _⟩ := numOk_bd o1
    have n1b := n1b rfl
    refine Ev.bind f1 ?_
    simp only []
    rw [spl_step]
    by_cases e1 : (tw 58 (l.drop i)).length = (l.drop i).length
    · rw [if_pos e1]
      refine Ev.bind (part_no l hb _ none (by omega) hl (comes_end l _ 58 (by omega))) (Ev.neg (by simp) ?_)
      have := pj1_end l most (numV (tw 58 (l.drop i))) 0 0 b _ (show i + (tw 58 (l.drop i)).length = l.length by omega) ⟨n1, n1b⟩ (by decide) (by decide)
      refine Ev.cast this ?_
      unfold clkV
      simp only
      rw [if_pos (show numOk (tw 58 (l.drop i)) 1 3 from o1)]
      by_cases g : numV (tw 58 (l.drop i)) > most
      · rw [if_pos (show numV (tw 58 (l.drop i)) > most ∨ (0 : Int) > 59 ∨ (0 : Int) > 59 from Or.inl g), if_pos g]
      · rw [if_neg (show ¬ (numV (tw 58 (l.drop i)) > most ∨ (0 : Int) > 59 ∨ (0 : Int) > 59) by omega), if_neg g]; simp
    · rw [if_neg e1]
      have s1 := tw_sign 58 (l.drop i) e1
      rw [List.drop_drop, List.drop_drop] at s1
      generalize ha : tw 58 (l.drop i) = A at *
      rw [List.drop_drop, show i + (A.length + 1) = i + A.length + 1 by omega]
      rw [show i + (A.length + 1) = i + A.length + 1 by omega] at s1
      have c1 := comes_at l _ 58 _ s1
      have d2 : (l.drop (i + A.length + 1)).length = l.length - (i + A.length + 1) := List.length_drop
      have b2 := tw_le 58 (l.drop (i + A.length + 1))
      rw [spl_step]
      by_cases o2 : numOk (tw 58 (l.drop (i + A.length + 1))) 2 2
      · have f2 := fld_ok l hb (i + A.length + 1) 58 hc 2 2 (by decide) (by decide) (by decide) o2
        obtain ⟨n2, _, n2b⟩ := numOk_bd o2
        have n2b := n2b rfl
        refine Ev.bind (part_yes l hb _ (by omega) hl c1 f2) (Ev.pos rfl ?_)
        simp only []
        by_cases e2 : (tw 58 (l.drop (i + A.length + 1))).length = (l.drop (i + A.length + 1)).length
        · rw [if_pos e2]
          refine Ev.bind (part_no l hb _ none (by omega) hl (comes_end l _ 58 (by omega))) ?_
          have := pj1_end l most (numV A) (numV (tw 58 (l.drop (i + A.length + 1)))) 0 b _ (show i + A.length + 1 + (tw 58 (l.drop (i + A.length + 1))).length = l.length by omega) ⟨n1, n1b⟩ ⟨n2, n2b⟩ (by decide)
          refine Ev.cast this ?_
          unfold clkV
          simp only
          rw [if_pos (show numOk A 1 3 ∧ numOk (tw 58 (l.drop (i + A.length + 1))) 2 2 from ⟨o1, o2⟩)]
          by_cases g : numV A > most ∨ numV (tw 58 (l.drop (i + A.length + 1))) > 59
          · rw [if_pos (show numV A > most ∨ numV (tw 58 (l.drop (i + A.length + 1))) > 59 ∨ (0 : Int) > 59 by omega), if_pos g]
          · rw [if_neg (show ¬ (numV A > most ∨ numV (tw 58 (l.drop (i + A.length + 1))) > 59 ∨ (0 : Int) > 59) by omega), if_neg g]; simp
        · rw [if_neg e2]
          have s2 := tw_sign 58 (l.drop (i + A.length + 1)) e2
          rw [List.drop_drop, List.drop_drop] at s2
          generalize hB : tw 58 (l.drop (i + A.length + 1)) = B at *
          rw [List.drop_drop, show i + A.length + 1 + (B.length + 1) = i + A.length + 1 + B.length + 1 by omega]
          rw [show i + A.length + 1 + (B.length + 1) = i + A.length + 1 + B.length + 1 by omega] at s2
          have c2 := comes_at l _ 58 _ s2
          have d3 : (l.drop (i + A.length + 1 + B.length + 1)).length = l.length - (i + A.length + 1 + B.length + 1) := List.length_drop
          have b3 := tw_le 58 (l.drop (i + A.length + 1 + B.length + 1))
          rw [spl_step]
          by_cases o3 : numOk (tw 58 (l.drop (i + A.length + 1 + B.length + 1))) 2 2
          · have f3 := fld_ok l hb (i + A.length + 1 + B.length + 1) 58 hc 2 2 (by decide) (by decide) (by decide) o3
            obtain ⟨n3, _, n3b⟩ := numOk_bd o3
            have n3b := n3b rfl
            refine Ev.bind (part_yes l hb _ (by omega) hl c2 f3) ?_
            simp only []
            by_cases e3 : (tw 58 (l.drop (i + A.length + 1 + B.length + 1))).length = (l.drop (i + A.length + 1 + B.length + 1)).length
            · rw [if_pos e3]
              have := pj1_end l most (numV A) (numV B) (numV (tw 58 (l.drop (i + A.length + 1 + B.length + 1)))) b _ (show i + A.length + 1 + B.length + 1 + (tw 58 (l.drop (i + A.length + 1 + B.length + 1))).length = l.length by omega) ⟨n1, n1b⟩ ⟨n2, n2b⟩ ⟨n3, n3b⟩
              refine Ev.cast this ?_
              unfold clkV
              simp only
              rw [if_pos (show numOk A 1 3 ∧ numOk B 2 2 ∧ numOk (tw 58 (l.drop (i + A.length + 1 + B.length + 1))) 2 2 from ⟨o1, o2, o3⟩)]
            · rw [if_neg e3]
              obtain ⟨q, r, hq⟩ := spl_some 58 ((l.drop (i + A.length + 1 + B.length + 1)).drop ((tw 58 (l.drop (i + A.length + 1 + B.length + 1))).length + 1))
              rw [hq, clk_long]
              exact pj1_bad l most _ _ _ b _ none (by omega) (by unfold endV; simp only; rw [if_pos (by omega)]; simp)
          · obtain ⟨n, j, e, hs, hj, hst, hn0, hn1⟩ := fld_not l hb (i + A.length + 1 + B.length + 1) (by omega) 58 hc 2 2 (by decide) (by decide) (by decide) o3
            refine Ev.bind (part_yes l hb _ (by omega) hl c2 hs) ?_
            simp only []
            have e : clkV (A :: B :: (if (tw 58 (l.drop (i + A.length + 1 + B.length + 1))).length = (l.drop (i + A.length + 1 + B.length + 1)).length then [tw 58 (l.drop (i + A.length + 1 + B.length + 1))] else tw 58 (l.drop (i + A.length + 1 + B.length + 1)) :: spl 58 ((l.drop (i + A.length + 1 + B.length + 1)).drop ((tw 58 (l.drop (i + A.length + 1 + B.length + 1))).length + 1)))) most (if b = true then -1 else 1) = (0, some 2) := by
              split <;> exact clk_bad2 _ _ _ _ _ _ o3
            rw [e]
            exact pj1_bad l most _ _ _ b j _ hj hst.2
      · obtain ⟨n, j, e, hs, hj, hst, hn0, hn1⟩ := fld_not l hb (i + A.length + 1) (by omega) 58 hc 2 2 (by decide) (by decide) (by decide) o2
        refine Ev.bind (part_yes l hb _ (by omega) hl c1 hs) (Ev.pos rfl (Ev.bind (part_no l hb j e hj hl hst.1) ?_))
        simp only []
        have e2 : clkV (A :: (if (tw 58 (l.drop (i + A.length + 1))).length = (l.drop (i + A.length + 1)).length then [tw 58 (l.drop (i + A.length + 1))] else tw 58 (l.drop (i + A.length + 1)) :: spl 58 ((l.drop (i + A.length + 1)).drop ((tw 58 (l.drop (i + A.length + 1))).length + 1)))) most (if b = true then -1 else 1) = (0, some 2) := by
          split <;> exact clk_bad1 _ _ _ _ _ o2
        rw [e2]
        exact pj1_bad l most _ _ _ b j e hj hst.2
  · obtain ⟨n, j, e, hs, hj, hst, hn0, hn1⟩ := fld_not l hb i hi 58 hc 1 3 (by decide) (by decide) (by decide) o1
    rw [hs] at f1
    refine Ev.bind f1 (Ev.bind (part_no l hb j e hj hl hst.1) (Ev.neg (by simp) ?_))
    simp only []
    obtain ⟨r, hr⟩ : ∃ r, spl 58 (l.drop i) = tw 58 (l.drop i) :: r := by
      rw [spl_step]; split <;> exact ⟨_, rfl⟩
    rw [hr, clk_bad0 _ _ _ _ o1]
    exact pj1_bad l most _ _ _ b j e hj hst.2
theorem parseclock_is (l : List Int) (hb : Byt l) (hl : l.length ≤ 100000) (most : Int) : Ev (fun k => rule_ParseClock.f k (strOfNums l) most) (clockP l most) := by
  unfold rule_ParseClock.f clockP
  refine Ev.bindc (in_is most 0 999) ?_
  by_cases hm : 0 ≤ most ∧ most ≤ 999
  · rw [if_pos hm]
    refine Ev.pos (decide_eq_true hm) (Ev.bindc (show scan_New_string.f (strOfNums l) = some (strOfNums l, ((0 : Nat) : Int), none) from rfl) (Ev.bindc (sTake_is l hb 0 none 45 (by omega) (by omega)) ?_))
    simp only [leftV_none, List.drop_zero]
    have hc : ∀ c, c ≠ 0 → comesV l c = decide (l.headD 0 = c) := by
      intro c h0
      cases l with
      | nil => simp [comesV]; exact fun q => h0 q.symm
      | cons x l => unfold comesV; rw [List.head?_cons, Bool.eq_iff_iff]; simp
    have one : ∀ c, c ≠ 0 → l.headD 0 = c → 1 ≤ l.length := by
      intro c h0 h
      cases l with
      | nil => exact absurd h.symm h0
      | cons x l => simp
    rw [hc 45 (by decide)]
    unfold sgV siV
    by_cases h45 : l.headD 0 = 45
    · rw [decide_eq_true h45, if_pos rfl, if_pos h45, if_pos (Or.inl h45)]
      have := pj0_is l hb hl most true 1 (one 45 (by decide) h45)
      exact Ev.pos rfl this
    · rw [decide_eq_false h45, if_neg (by decide), if_neg h45]
      refine Ev.neg (by decide) (Ev.bindc (sTake_is l hb 0 none 43 (by omega) (by omega)) ?_)
      simp only [leftV_none, List.drop_zero]
      rw [hc 43 (by decide)]
      by_cases h43 : l.headD 0 = 43
      · rw [decide_eq_true h43, if_pos rfl, if_pos (Or.inr h43)]
        exact pj0_is l hb hl most false 1 (one 43 (by decide) h43)
      · rw [decide_eq_false h43, if_neg (by decide), if_neg (fun q => q.elim h45 h43)]
        exact pj0_is l hb hl most false 0 (by omega)
  · rw [if_neg hm]
    exact Ev.neg (by simpa using hm) (Ev.now _)
theorem byt_append {a b : List Int} (ha : Byt a) (hb : Byt b) : Byt (a ++ b) := fun x hx => (List.mem_append.mp hx).elim (ha x) (hb x)
theorem bytesOf_son {l : List Int} (h : Byt l) : bytesOf (strOfNums l) = l := son_inj (byt_of _) h (by rw [son_of])
theorem wtext_is (l s : List Int) (hs : Byt s) (h : l.length + s.length ≤ 100000) : wtext l (strOfNums s) = some (l ++ s) := by
  unfold wtext
  rw [if_pos (by rw [son_size]; omega), bytesOf_son hs]
theorem rawV_byt (n w : Nat) : Byt (rawV n w) := fun x hx => by have := rawV_figs n w x hx; omega
theorem rawV_short (n w : Nat) (hn : n < 18446744073709551616) (hw : w ≤ 20) : (rawV n w).length ≤ 20 := by
  have := digs_len n 20 (by have : (10 : Nat) ^ 20 = 100000000000000000000 := by decide
                            omega)
  rw [rawV_len]; omega
theorem wput_is (l : List Int) (er : Option Int) (n w : Int) (hn : 0 ≤ n ∧ n ≤ 9223372036854775807) (hw : 0 ≤ w ∧ w ≤ 20) (hl : l.length ≤ 90000) : Ev (fun k => wput k l er n w) (l ++ rawV n.toNat w.toNat, er) := by
  unfold wput
  have e : putV n w.toNat = rawV n.toNat w.toNat := by unfold putV; rw [if_neg (by omega)]
  have p := put_is n w (by unfold I64; omega) hw
  rw [e] at p
  have s := rawV_short n.toNat w.toNat (by omega) (by omega)
  refine Ev.bind p (Ev.bindc (wtext_is l _ (rawV_byt _ _) (by omega)) ?_)
  exact Ev.now _
/-- The text of seconds that are not below 0. -/
def clock0 (t : Nat) : List Int := rawV (t / 3600) 1 ++ (if t % 3600 = 0 then [] else 58 :: (rawV (t % 3600 / 60) 2 ++ (if t % 60 = 0 then [] else 58 :: rawV (t % 60) 2)))
def clockT (t : Int) : List Int := (if t < 0 then [45] else []) ++ clock0 t.natAbs
theorem clock0_short (t : Nat) (h : t ≤ 100000000) : (clock0 t).length ≤ 70 ∧ Byt (clock0 t) := by
  have a := rawV_short (t / 3600) 1 (by omega) (by decide)
  have b := rawV_short (t % 3600 / 60) 2 (by omega) (by decide)
  have c := rawV_short (t % 60) 2 (by omega) (by decide)
  have ba := rawV_byt (t / 3600) 1
  have bb := rawV_byt (t % 3600 / 60) 2
  have bc := rawV_byt (t % 60) 2
  unfold clock0
  constructor
  · split
    · simp; omega
    · split
      · simp; omega
      · simp; omega
  · refine byt_append ba ?_
    split
    · intro x hx; cases hx
    · intro x hx
      rcases List.mem_cons.mp hx with e | hx
      · omega
      · rcases List.mem_append.mp hx with hx | hx
        · exact bb x hx
        · split at hx
          · cases hx
          · rcases List.mem_cons.mp hx with e | hx
            · omega
            · exact bc x hx
theorem raw01 (n : Nat) : rawV n 0 = rawV n 1 := rfl
theorem wrest_is (l : List Int) (er : Option Int) (t : Nat) (ht : t ≤ 100000000) (hl : l.length ≤ 1000) : Ev (fun k => wrest k (l, er) t) (l ++ (if t % 3600 = 0 then [] else 58 :: (rawV (t % 3600 / 60) 2 ++ (if t % 60 = 0 then [] else 58 :: rawV (t % 60) 2))), er) := by
  unfold wrest
  have m1 : Int.tmod (t : Int) 3600 = ((t % 3600 : Nat) : Int) := by rw [tmod_is, if_neg (by omega)]; omega
  have m2 : Int.tmod (t : Int) 60 = ((t % 60 : Nat) : Int) := by rw [tmod_is, if_neg (by omega)]; omega
  have q1 : wrap64 (Int.tdiv (((t % 3600 : Nat) : Int)) 60) = ((t % 3600 / 60 : Nat) : Int) := by rw [tdiv_is, if_neg (by omega), wr (by omega)]; omega
  rw [m1, m2, q1]
  refine Ev.ite (fun h => ?_) (fun h => ?_)
  · rw [if_pos (by omega), List.append_nil]; exact Ev.now _
  · rw [if_neg (by omega)]
    have s1 := rawV_short (t % 3600 / 60) 2 (by omega) (by decide)
    have c1 := wtext_is l [58] (by unfold Byt; decide) (by simp; omega)
    have p1 := wput_is (l ++ [58]) er (((t % 3600 / 60 : Nat) : Int)) 2 (by omega) (by decide) (by simp; omega)
    rw [Int.toNat_natCast] at p1
    refine Ev.bindc (show wtext l ⟨#[58]⟩ = some (l ++ [58]) from c1) (Ev.bind p1 (Ev.ite (fun g => ?_) (fun g => ?_)))
    · rw [if_pos (by omega)]
      exact Ev.cast (Ev.now _) (by simp)
    · rw [if_neg (by omega)]
      have hlen : (l ++ [58] ++ rawV (t % 3600 / 60) (2 : Int).toNat).length ≤ 1100 := by
        simp only [List.length_append, List.length_cons, List.length_nil]
        have : (rawV (t % 3600 / 60) (2 : Int).toNat).length ≤ 20 := s1
        omega
      have c2 := wtext_is (l ++ [58] ++ rawV (t % 3600 / 60) (2 : Int).toNat) [58] (by unfold Byt; decide) (by simp only [List.length_cons, List.length_nil]; omega)
      have p2 := wput_is (l ++ [58] ++ rawV (t % 3600 / 60) (2 : Int).toNat ++ [58]) er (((t % 60 : Nat) : Int)) 2 (by omega) (by decide) (by rw [List.length_append]; simp only [List.length_cons, List.length_nil]; omega)
      rw [Int.toNat_natCast] at p2
      refine Ev.bindc (show wtext _ ⟨#[58]⟩ = some _ from c2) (Ev.cast p2 ?_)
      simp
theorem wclock_is (l : List Int) (er : Option Int) (t : Int) (ht : -100000000 ≤ t ∧ t ≤ 100000000) (hl : l.length ≤ 500) : Ev (fun k => wclock k l er t) (l ++ clockT t, er) := by
  unfold wclock
  have sgn : wsign l t = some (l ++ (if t < 0 then [45] else []), ((t.natAbs : Nat) : Int)) := by
    unfold wsign
    by_cases h : t < 0
    · rw [if_pos h, if_pos h, show wtext l ⟨#[45]⟩ = some (l ++ [45]) from wtext_is l [45] (by unfold Byt; decide) (by simp; omega)]
      simp only [Option.bind_some]
      rw [wr (by omega), show -t = ((t.natAbs : Nat) : Int) by omega]
    · rw [if_neg h, if_neg h, List.append_nil, show t = ((t.natAbs : Nat) : Int) by omega]
      simp
  have hl2 : (l ++ (if t < 0 then [45] else [])).length ≤ 501 := by rw [List.length_append]; split <;> simp <;> omega
  refine Ev.bindc sgn ?_
  simp only []
  have hc : t.natAbs ≤ 100000000 := by omega
  generalize hN : t.natAbs = n at *
  generalize hS : (l ++ (if t < 0 then [45] else [])) = M at *
  have q : wrap64 (Int.tdiv (n : Int) 3600) = ((n / 3600 : Nat) : Int) := by rw [tdiv_is, if_neg (by omega), wr (by omega)]; omega
  rw [q]
  have p := wput_is M er (((n / 3600 : Nat) : Int)) 0 (by omega) (by decide) (by omega)
  rw [Int.toNat_natCast] at p
  have s := rawV_short (n / 3600) 0 (by omega) (by decide)
  have r := wrest_is (M ++ rawV (n / 3600) (0 : Int).toNat) er n hc (by rw [List.length_append]; have : (rawV (n / 3600) (0 : Int).toNat).length ≤ 20 := s; omega)
  refine Ev.bind p (Ev.cast r ?_)
  unfold clockT
  rw [hN, ← List.append_assoc, hS, List.append_assoc]
  rfl
theorem putclock_is (t most : Int) (hm : 0 ≤ most ∧ most ≤ 999) (h : -(most * 3600 + 3599) ≤ t ∧ t ≤ most * 3600 + 3599) : Ev (fun k => rule_PutClock.f k t most) (strOfNums (clockT t), none) := by
  unfold rule_PutClock.f
  refine Ev.bindc (in_is most 0 999) (Ev.pos (decide_eq_true hm) (Ev.bindc (in_is _ _ _) ?_))
  rw [show wrap64 (most * 3600) = most * 3600 from wr (by omega), show wrap64 (most * 3600 + 3600) = most * 3600 + 3600 from wr (by omega), show wrap64 (most * 3600 + 3600 - 1) = most * 3600 + 3600 - 1 from wr (by omega), show wrap64 (-(most * 3600 + 3600 - 1)) = -(most * 3600 + 3600 - 1) from wr (by omega)]
  refine Ev.pos (decide_eq_true (by omega)) (Ev.bind (wclock_is [] none t (by omega) (by simp)) (Ev.cast (Ev.now _) ?_))
  rw [List.nil_append]
theorem putclock_not (t most : Int) (h : ¬ (0 ≤ most ∧ most ≤ 999) ∨ ¬ (-(most * 3600 + 3599) ≤ t ∧ t ≤ most * 3600 + 3599)) : Ev (fun k => rule_PutClock.f k t most) ((⟨#[]⟩ : ByteArray), some 1) := by
  unfold rule_PutClock.f
  refine Ev.bindc (in_is most 0 999) (Ev.ite (fun q => Ev.bindc (in_is _ _ _) ?_) (fun q => Ev.now _))
  have hm := of_decide_eq_true q
  rw [show wrap64 (most * 3600) = most * 3600 from wr (by omega), show wrap64 (most * 3600 + 3600) = most * 3600 + 3600 from wr (by omega), show wrap64 (most * 3600 + 3600 - 1) = most * 3600 + 3600 - 1 from wr (by omega), show wrap64 (-(most * 3600 + 3600 - 1)) = -(most * 3600 + 3600 - 1) from wr (by omega)]
  refine Ev.neg (by rw [decide_eq_true_iff]; omega) (Ev.now _)
theorem small_pt (x : Int) (h : 0 ≤ x ∧ x ≤ 255) : ∃ y, scan_small.f x = some y ∧ (y = 46 ↔ x = 46) := by
  unfold scan_small.f
  by_cases h1 : x ≥ 65
  · rw [if_pos h1]
    by_cases h2 : x ≤ 90
    · rw [if_pos h2]; exact ⟨_, rfl, by omega⟩
    · rw [if_neg h2]; exact ⟨_, rfl, by omega⟩
  · rw [if_neg h1]; exact ⟨_, rfl, by omega⟩
theorem alike_pt (x : Int) (h : 0 ≤ x ∧ x ≤ 255) : Ev (fun k => scan_alike.f k (strOfNums [x]) (strOfNums [46])) (decide (x = 46)) := by
  unfold scan_alike.f
  have b1 : bt (strOfNums [x]) 0 = x := bt_at_son (l := [x]) (i := 0) (fun y hy => by simp at hy; omega) (by simp)
  have b2 : bt (strOfNums [46]) 0 = 46 := rfl
  obtain ⟨y, hy, he⟩ := small_pt x h
  refine Ev.up ?_
  simp only [scan_alike.l0, son_size, b1, b2]
  refine Ev.pos (by simp) (Ev.pos (by decide) (Ev.pos (by simp) (Ev.bindc hy (Ev.pos (by simp) (Ev.bindc (show scan_small.f 46 = some 46 from rfl) ?_)))))
  by_cases hx : x = 46
  · rw [decide_eq_true hx]
    refine Ev.pos (he.mpr hx) (Ev.up ?_)
    simp only [scan_alike.l0]
    exact Ev.neg (by simp [wrap64]) (Ev.now _)
  · rw [decide_eq_false hx]
    exact Ev.neg (fun q => hx (he.mp q)) (Ev.now _)
theorem sFold_pt (l : List Int) (hb : Byt l) (i : Nat) (e : Option Int) (hi : i ≤ l.length) (hl : l.length ≤ 100000) :
    Ev (fun k => scan_Scanner_string_Fold.f k (strOfNums l) i e (strOfNums [46])) (comesV (leftV l i e) 46, strOfNums l, (if comesV (leftV l i e) 46 = true then ((i + 1 : Nat) : Int) else (i : Int)), e) := by
  unfold scan_Scanner_string_Fold.f
  refine Ev.bindc (srest_is l i e hi) (Ev.bindc (sgoing_is _ _ _) ?_)
  simp only []
  cases e with
  | some c => exact Ev.neg (by simp) (Ev.now _)
  | none =>
    refine Ev.pos rfl ?_
    have ht := fun h => stake_is l i none 1 hi (by omega) h
    have hbr := leftV_byt hb i none
    generalize leftV l i none = r at *
    rw [son_size, son_size]
    cases r with
    | nil => exact Ev.pos (by simp) (Ev.now _)
    | cons x r =>
      have hx := hbr.head
      have e1 : (strOfNums (x :: r)).extract 0 ((([46] : List Int).length : Int)).toNat = strOfNums [x] := son_first (x :: r) 1
      have c1 : comesV (x :: r) 46 = decide (x = 46) := by unfold comesV; rw [List.head?_cons, Bool.eq_iff_iff]; simp
      refine Ev.neg (by simp only [List.length_cons, List.length_nil]; omega) (Ev.pos (by simp) (Ev.pos (by simp only [List.length_cons, List.length_nil]; omega) ?_))
      rw [e1, c1]
      refine Ev.bind (alike_pt x hx) ?_
      by_cases h : x = 46
      · rw [decide_eq_true h]
        refine Ev.pos rfl (Ev.bindc (show scan_Scanner_string_take.f (strOfNums l) (↑i) none (([46] : List Int).length : Int) = _ from ht (by simp)) (Ev.now _))
      · rw [decide_eq_false h]
        exact Ev.neg (by decide) (Ev.now _)
theorem sMust_yes (l : List Int) (hb : Byt l) (i : Nat) (hi : i ≤ l.length) (hl : l.length ≤ 100000) (h : comesV (leftV l i none) 46 = true) :
    Ev (fun k => scan_Scanner_string_Must.f k (strOfNums l) i none (⟨#[46]⟩ : ByteArray)) (strOfNums l, ((i + 1 : Nat) : Int), none) := by
  unfold scan_Scanner_string_Must.f
  have f := sFold_pt l hb i none hi hl
  rw [h] at f
  exact Ev.bind f (Ev.pos rfl (Ev.now _))
theorem sMust_no (l : List Int) (hb : Byt l) (i : Nat) (e : Option Int) (hi : i ≤ l.length) (hl : l.length ≤ 100000) (h : comesV (leftV l i e) 46 = false) :
    ∃ c, Ev (fun k => scan_Scanner_string_Must.f k (strOfNums l) i e (⟨#[46]⟩ : ByteArray)) (strOfNums l, (i : Int), some c) := by
  unfold scan_Scanner_string_Must.f scan_Scanner_string_Fail.f
  have f := sFold_pt l hb i e hi hl
  rw [h] at f
  cases e with
  | none => exact ⟨2, Ev.bind f (Ev.neg (by simp) (Ev.bindc (a := (strOfNums l, (i : Int), some 2)) rfl (Ev.now _)))⟩
  | some c => exact ⟨c, Ev.bind f (Ev.neg (by simp) (Ev.bindc (a := (strOfNums l, (i : Int), some c)) rfl (Ev.now _)))⟩
/-- A rule's text, cut at the stroke: the day's, the time's, is there one. -/
def dateS (l : List Int) : List Int := tw 47 l
def timed (l : List Int) : Prop := (tw 47 l).length ≠ l.length
instance (l : List Int) : Decidable (timed l) := inferInstanceAs (Decidable (¬ _))
def timeS (l : List Int) : List Int := l.drop ((tw 47 l).length + 1)
theorem tw_take2 (c : Int) (l : List Int) : l.take (tw c l).length = tw c l := tw_take l
theorem cut_is (l : List Int) (hb : Byt l) (hl : l.length ≤ 100000) : strings_Cut.f (strOfNums l) (⟨#[47]⟩ : ByteArray) = some (strOfNums (dateS l), (if timed l then strOfNums (timeS l) else (⟨#[]⟩ : ByteArray)), decide (timed l)) := by
  have hle := tw_le 47 l
  have ix : idxb (strOfNums l) 47 = if (tw 47 l).length < l.length then ((tw 47 l).length : Int) else -1 := by
    unfold idxb
    exact idx_is l hb 47 (by decide)
  unfold strings_Cut.f stringslite_Cut.f stringslite_Index.f
  rw [if_pos (show (⟨#[47]⟩ : ByteArray).size = 1 from rfl), show bt (⟨#[47]⟩ : ByteArray) 0 = 47 from rfl, ix]
  simp only [Option.bind_some, son_size]
  have htm : timed l ↔ (tw 47 l).length < l.length := ⟨fun q => by unfold timed at q; omega, fun q => by unfold timed; omega⟩
  by_cases h : (tw 47 l).length < l.length
  · rw [if_pos h]
    have w : wrap64 (((tw 47 l).length : Int) + (((⟨#[47]⟩ : ByteArray).size : Nat) : Int)) = (((tw 47 l).length + 1 : Nat) : Int) := by rw [show (⟨#[47]⟩ : ByteArray).size = 1 from rfl, wr (by omega)]; rfl
    rw [w, if_pos (by omega), if_pos (by omega), if_pos (by omega), if_pos (by omega), if_pos (by omega), Int.toNat_natCast, Int.toNat_natCast, son_first, son_extract, List.take_of_length_le (l := l.drop ((tw 47 l).length + 1)) (by rw [List.length_drop]; omega), tw_take2, if_pos (htm.mpr h), decide_eq_true (htm.mpr h)]
    rfl
  · rw [if_neg h, if_neg (by omega), if_neg (fun q => h (htm.mp q)), decide_eq_false (fun q => h (htm.mp q))]
    have e : dateS l = l := by
      have := tw_take2 47 l
      rw [List.take_of_length_le (by omega)] at this
      exact this.symm
    rw [e]; rfl
/-- What a day's text says: the rule's kind, month, week and day. -/
def dateP (d : List Int) : Option (Int × Int × Int × Int) :=
  if d.headD 0 = 74 then (if numOk (d.drop 1) 1 3 then some (1, 0, 0, numV (d.drop 1)) else none)
  else if d.headD 0 = 77 then (match spl 46 (d.drop 1) with
    | [A, B, C] => if numOk A 1 2 ∧ numOk B 1 1 ∧ numOk C 1 1 then some (3, numV A, numV B, numV C) else none
    | _ => none)
  else if numOk d 1 3 then some (2, 0, 0, numV d) else none
def ruleC (k m w d t : Int) : Int × Int × Int × Int × Int × Option Int := match chkV k m w d t with | none => (k, m, w, d, t, none) | some c => (0, 0, 0, 0, 0, some c)
def ruleP (l : List Int) : Int × Int × Int × Int × Int × Option Int := match dateP (dateS l) with
  | none => (0, 0, 0, 0, 0, some 2)
  | some (k, m, w, d) => if timed l then (match clockP (timeS l) 167 with | (t, none) => ruleC k m w d t | (_, some e) => (0, 0, 0, 0, 0, some e)) else ruleC k m w d 7200
theorem ruleC_err (k m w d t : Int) : (ruleC k m w d t).2.2.2.2.2 ≠ some 0 := by
  unfold ruleC
  have := chkV_err k m w d t
  cases h : chkV k m w d t with
  | none => simp
  | some c => rw [h] at this; exact this
theorem ruleP_err (l : List Int) : (ruleP l).2.2.2.2.2 ≠ some 0 := by
  unfold ruleP
  cases dateP (dateS l) with
  | none => simp
  | some q =>
    obtain ⟨k, m, w, d⟩ := q
    simp only
    by_cases h : timed l
    · rw [if_pos h]
      have := clockP_err (timeS l) 167
      rcases hq : clockP (timeS l) 167 with ⟨t, e⟩
      rw [hq] at this
      cases e with
      | none => exact ruleC_err _ _ _ _ _
      | some e => exact this
    · rw [if_neg h]; exact ruleC_err _ _ _ _ _
theorem tw_none {c : Int} {t : List Int} (h : ∀ x ∈ t, x ≠ c) : tw c t = t := by
  unfold tw
  apply tw_all
  intro x hx
  simpa using h x hx
/-- A number that is all of what is left. -/
theorem whole_ok (l : List Int) (hb : Byt l) (i : Nat) (hi : i ≤ l.length) (least most : Int) (h1 : 1 ≤ least) (h2 : least ≤ most) (h3 : most ≤ 18) (h : numOk (l.drop i) least most) :
    sfigV l i none least most = (numV (l.drop i), (l.length : Int), none) := by
  have e : tw (-1) (l.drop i) = l.drop i := tw_none (fun x hx => by have := hb.drop i x hx; omega)
  have := fld_ok l hb i (-1) (by decide) least most h1 h2 h3 (by rw [e]; exact h)
  rw [e, List.length_drop, show i + (l.length - i) = l.length by omega] at this
  exact this
theorem whole_no (l : List Int) (hb : Byt l) (i : Nat) (hi : i ≤ l.length) (least most : Int) (h1 : 1 ≤ least) (h2 : least ≤ most) (h3 : most ≤ 18) (h : ¬ numOk (l.drop i) least most) :
    ∃ (n : Int) (j : Nat) (e : Option Int), sfigV l i none least most = (n, (j : Int), e) ∧ j ≤ l.length ∧ endV l j e ≠ none := by
  have e : tw (-1) (l.drop i) = l.drop i := tw_none (fun x hx => by have := hb.drop i x hx; omega)
  obtain ⟨n, j, q, a, b, c, _⟩ := fld_not l hb i hi (-1) (by decide) least most h1 h2 h3 (by rw [e]; exact h)
  exact ⟨n, j, q, a, b, c.2⟩
def zeroR (e : Int) : Int × Int × Int × Int × Int × Option Int := (0, 0, 0, 0, 0, some e)
theorem pr_bad (x5 : ByteArray) (x6 : Bool) (l : List Int) (j : Nat) (e : Option Int) (k m w d t : Int) (hj : j ≤ l.length) (h : endV l j e ≠ none) : Ev (fun n => rule_Parse.j0 n x5 x6 (strOfNums l) j e k m w d t) (zeroR 2) := by
  refine Ev.up ?_
  simp only [rule_Parse.j0]
  refine Ev.bindc (sEnd_is l j e hj) (Ev.neg ?_ (Ev.now _))
  intro q
  apply h
  cases hq : endV l j e with
  | none => rfl
  | some c => rw [hq] at q; cases q
theorem pr_chk (k m w d t : Int) : Ev (fun _ => (rule_Check.f k m w d t).bind fun t332 => if t332.isNone = true then some (k, m, w, d, t, none) else some (0, 0, 0, 0, 0, some (t332.getD 0))) (ruleC k m w d t) := by
  refine Ev.bindc (chk_is k m w d t) ?_
  unfold ruleC
  cases chkV k m w d t with
  | none => exact Ev.pos rfl (Ev.now _)
  | some c => exact Ev.neg (by simp) (Ev.now _)
theorem pr_end (whole l : List Int) (hw : Byt whole) (hwl : whole.length ≤ 1000) (k m w d t : Int) : Ev (fun n => rule_Parse.j0 n (if timed whole then strOfNums (timeS whole) else (⟨#[]⟩ : ByteArray)) (decide (timed whole)) (strOfNums l) (l.length : Int) none k m w d t)
    (if timed whole then (match clockP (timeS whole) 167 with | (t, none) => ruleC k m w d t | (_, some e) => zeroR e) else ruleC k m w d 7200) := by
  have he : endV l l.length none = none := by unfold endV; simp only; rw [if_neg (by omega)]
  have s := sEnd_is l l.length none (Nat.le_refl _)
  rw [he] at s
  refine Ev.up ?_
  simp only [rule_Parse.j0]
  refine Ev.bindc s (Ev.pos rfl ?_)
  by_cases h : timed whole
  · rw [if_pos h, if_pos h, decide_eq_true h]
    have hts : (timeS whole).length ≤ 1000 := by unfold timeS; rw [List.length_drop]; omega
    refine Ev.pos rfl (Ev.bind (parseclock_is (timeS whole) (hw.drop _) (by omega) 167) ?_)
    rcases clockP (timeS whole) 167 with ⟨t2, e⟩
    cases e with
    | none => exact Ev.pos rfl (pr_chk k m w d t2)
    | some e => exact Ev.neg (by simp) (Ev.now _)
  · rw [if_neg h, if_neg h, decide_eq_false h]
    exact Ev.neg (by decide) (pr_chk k m w d 7200)
/-- Behind an error nothing is read. -/
theorem fig_frozen (l : List Int) (hb : Byt l) (j : Nat) (c : Int) (a b : Int) (hj : j ≤ l.length) (hl : l.length ≤ 100000) : Ev (fun k => scan_Scanner_string_Figures.f k (strOfNums l) j (some c) a b) (0, strOfNums l, (j : Int), some c) := sFigures_is l hb j (some c) a b hj (by omega)
theorem must_frozen (l : List Int) (hb : Byt l) (j : Nat) (c : Int) (hj : j ≤ l.length) (hl : l.length ≤ 100000) : Ev (fun k => scan_Scanner_string_Must.f k (strOfNums l) j (some c) (⟨#[46]⟩ : ByteArray)) (strOfNums l, (j : Int), some c) := by
  unfold scan_Scanner_string_Must.f scan_Scanner_string_Fail.f
  have f := sFold_pt l hb j (some c) hj hl
  exact Ev.bind f (Ev.neg (by simp [leftV_some, comesV]) (Ev.bindc (a := (strOfNums l, (j : Int), some c)) rfl (Ev.now _)))
def wok (L : List (List Int)) : Option (Int × Int × Int × Int) := match L with
  | [A, B, C] => if numOk A 1 2 ∧ numOk B 1 1 ∧ numOk C 1 1 then some (3, numV A, numV B, numV C) else none
  | _ => none
theorem wok_0 (A : List Int) (r : List (List Int)) (h : ¬ numOk A 1 2) : wok (A :: r) = none := by
  match r with
  | [] => rfl
  | [B] => rfl
  | [B, C] => exact if_neg (fun q => h q.1)
  | B :: C :: D :: r => rfl
theorem wok_1 (A B : List Int) (r : List (List Int)) (h : ¬ numOk B 1 1) : wok (A :: B :: r) = none := by
  match r with
  | [] => rfl
  | [C] => exact if_neg (fun q => h q.2.1)
  | C :: D :: r => rfl
theorem wok_2 (A B C : List Int) (r : List (List Int)) (h : ¬ numOk C 1 1) : wok (A :: B :: C :: r) = none := by
  match r with
  | [] => exact if_neg (fun q => h q.2.2)
  | D :: r => rfl
theorem rweekly_is (l : List Int) (hb : Byt l) (hl : l.length ≤ 100000) (i : Nat) (hi : i ≤ l.length) :
    (∃ m w d, wok (spl 46 (l.drop i)) = some (3, m, w, d) ∧ Ev (fun k => rule_weekly.f k (strOfNums l) i none) (3, m, w, d, 0, strOfNums l, (l.length : Int), none)) ∨
    (wok (spl 46 (l.drop i)) = none ∧ ∃ (m w d : Int) (j : Nat) (e : Option Int), Ev (fun k => rule_weekly.f k (strOfNums l) i none) (3, m, w, d, 0, strOfNums l, (j : Int), e) ∧ j ≤ l.length ∧ endV l j e ≠ none) := by
  have hc : ¬ (48 ≤ (46 : Int) ∧ (46 : Int) ≤ 57) := by decide
  have al := tw_le 46 (l.drop i)
  have dl : (l.drop i).length = l.length - i := List.length_drop
  have f1 := sFigures_is l hb i none 1 2 hi (by omega)
  have endS : ∀ (j : Nat) (c : Int), endV l j (some c) ≠ none := fun j c => by simp [endV]
  unfold rule_weekly.f
  by_cases o1 : numOk (tw 46 (l.drop i)) 1 2
  · rw [fld_ok l hb i 46 hc 1 2 (by decide) (by decide) (by decide) o1] at f1
    rw [spl_step]
    by_cases e1 : (tw 46 (l.drop i)).length = (l.drop i).length
    · rw [if_pos e1]
      obtain ⟨c, hm⟩ := sMust_no l hb (i + (tw 46 (l.drop i)).length) none (by omega) hl (comes_end l _ 46 (by omega))
      exact Or.inr ⟨rfl, _, _, _, _, _, Ev.bind f1 (Ev.bind hm (Ev.bind (fig_frozen l hb _ c 1 1 (by omega) hl) (Ev.bind (must_frozen l hb _ c (by omega) hl) (Ev.bind (fig_frozen l hb _ c 1 1 (by omega) hl) (Ev.now _))))), by omega, endS _ _⟩
    · rw [if_neg e1]
      have s1 := tw_sign 46 (l.drop i) e1
      rw [List.drop_drop, List.drop_drop] at s1
      generalize ha : tw 46 (l.drop i) = A at *
      rw [List.drop_drop, show i + (A.length + 1) = i + A.length + 1 by omega]
      rw [show i + (A.length + 1) = i + A.length + 1 by omega] at s1
      have m1 := sMust_yes l hb (i + A.length) (by omega) hl (comes_at l _ 46 _ s1)
      have d2 : (l.drop (i + A.length + 1)).length = l.length - (i + A.length + 1) := List.length_drop
      have b2 := tw_le 46 (l.drop (i + A.length + 1))
      have f2 := sFigures_is l hb (i + A.length + 1) none 1 1 (by omega) (by omega)
      rw [spl_step]
      by_cases o2 : numOk (tw 46 (l.drop (i + A.length + 1))) 1 1
      · rw [fld_ok l hb (i + A.length + 1) 46 hc 1 1 (by decide) (by decide) (by decide) o2] at f2
        by_cases e2 : (tw 46 (l.drop (i + A.length + 1))).length = (l.drop (i + A.length + 1)).length
        · rw [if_pos e2]
          obtain ⟨c, hm⟩ := sMust_no l hb (i + A.length + 1 + (tw 46 (l.drop (i + A.length + 1))).length) none (by omega) hl (comes_end l _ 46 (by omega))
          exact Or.inr ⟨rfl, _, _, _, _, _, Ev.bind f1 (Ev.bind m1 (Ev.bind f2 (Ev.bind hm (Ev.bind (fig_frozen l hb _ c 1 1 (by omega) hl) (Ev.now _))))), by omega, endS _ _⟩
        · rw [if_neg e2]
          have s2 := tw_sign 46 (l.drop (i + A.length + 1)) e2
          rw [List.drop_drop, List.drop_drop] at s2
          generalize hB : tw 46 (l.drop (i + A.length + 1)) = B at *
          rw [List.drop_drop, show i + A.length + 1 + (B.length + 1) = i + A.length + 1 + B.length + 1 by omega]
          rw [show i + A.length + 1 + (B.length + 1) = i + A.length + 1 + B.length + 1 by omega] at s2
          have m2 := sMust_yes l hb (i + A.length + 1 + B.length) (by omega) hl (comes_at l _ 46 _ s2)
          have d3 : (l.drop (i + A.length + 1 + B.length + 1)).length = l.length - (i + A.length + 1 + B.length + 1) := List.length_drop
          have b3 := tw_le 46 (l.drop (i + A.length + 1 + B.length + 1))
          have f3 := sFigures_is l hb (i + A.length + 1 + B.length + 1) none 1 1 (by omega) (by omega)
          rw [spl_step]
          by_cases o3 : numOk (tw 46 (l.drop (i + A.length + 1 + B.length + 1))) 1 1
          · rw [fld_ok l hb _ 46 hc 1 1 (by decide) (by decide) (by decide) o3] at f3
            by_cases e3 : (tw 46 (l.drop (i + A.length + 1 + B.length + 1))).length = (l.drop (i + A.length + 1 + B.length + 1)).length
            · rw [if_pos e3]
              refine Or.inl ⟨_, _, _, if_pos ⟨o1, o2, o3⟩, Ev.bind f1 (Ev.bind m1 (Ev.bind f2 (Ev.bind m2 (Ev.bind f3 ?_))))⟩
              simp only []
              rw [show i + A.length + 1 + B.length + 1 + (tw 46 (l.drop (i + A.length + 1 + B.length + 1))).length = l.length by omega]
              exact Ev.now _
            · rw [if_neg e3]
              obtain ⟨q, r, hq⟩ := spl_some 46 ((l.drop (i + A.length + 1 + B.length + 1)).drop ((tw 46 (l.drop (i + A.length + 1 + B.length + 1))).length + 1))
              rw [hq]
              exact Or.inr ⟨rfl, _, _, _, _, _, Ev.bind f1 (Ev.bind m1 (Ev.bind f2 (Ev.bind m2 (Ev.bind f3 (Ev.now _))))), by omega, by unfold endV; simp only; rw [if_pos (by omega)]; simp⟩
          · obtain ⟨n, j, e, hs, hj, hst, _⟩ := fld_not l hb (i + A.length + 1 + B.length + 1) (by omega) 46 hc 1 1 (by decide) (by decide) (by decide) o3
            rw [hs] at f3
            refine Or.inr ⟨by split <;> exact wok_2 _ _ _ _ o3, _, _, _, _, _, Ev.bind f1 (Ev.bind m1 (Ev.bind f2 (Ev.bind m2 (Ev.bind f3 (Ev.now _))))), hj, hst.2⟩
      · obtain ⟨n, j, e, hs, hj, hst, _⟩ := fld_not l hb (i + A.length + 1) (by omega) 46 hc 1 1 (by decide) (by decide) (by decide) o2
        rw [hs] at f2
        obtain ⟨c, hm⟩ := sMust_no l hb j e hj hl hst.1
        refine Or.inr ⟨by split <;> exact wok_1 _ _ _ o2, _, _, _, _, _, Ev.bind f1 (Ev.bind m1 (Ev.bind f2 (Ev.bind hm (Ev.bind (fig_frozen l hb _ c 1 1 hj hl) (Ev.now _))))), hj, endS _ _⟩
  · obtain ⟨n, j, e, hs, hj, hst, _⟩ := fld_not l hb i hi 46 hc 1 2 (by decide) (by decide) (by decide) o1
    rw [hs] at f1
    obtain ⟨c, hm⟩ := sMust_no l hb j e hj hl hst.1
    obtain ⟨r, hr⟩ : ∃ r, spl 46 (l.drop i) = tw 46 (l.drop i) :: r := by
      rw [spl_step]; split <;> exact ⟨_, rfl⟩
    rw [hr]
    exact Or.inr ⟨wok_0 _ _ o1, _, _, _, _, _, Ev.bind f1 (Ev.bind hm (Ev.bind (fig_frozen l hb _ c 1 1 hj hl) (Ev.bind (must_frozen l hb _ c hj hl) (Ev.bind (fig_frozen l hb _ c 1 1 hj hl) (Ev.now _))))), hj, endS _ _⟩
theorem ruleparse_is (l : List Int) (hb : Byt l) (hl : l.length ≤ 1000) : Ev (fun k => rule_Parse.f k (strOfNums l)) (ruleP l) := by
  have hd : Byt (dateS l) := fun x hx => hb x (by
    have := List.mem_of_mem_take (i := (tw 47 l).length) (l := l) (a := x) (by rw [tw_take2]; exact hx)
    exact this)
  have hdl : (dateS l).length ≤ 1000 := by have := tw_le 47 l; unfold dateS; omega
  unfold rule_Parse.f
  refine Ev.bindc (cut_is l hb (by omega)) ?_
  simp only []
  have fin := pr_end l (dateS l) hb hl
  have bad := fun (j : Nat) (e : Option Int) (k m w d t : Int) (hj : j ≤ (dateS l).length) (h : endV (dateS l) j e ≠ none) => pr_bad (if timed l then strOfNums (timeS l) else (⟨#[]⟩ : ByteArray)) (decide (timed l)) (dateS l) j e k m w d t hj h
  unfold ruleP
  generalize dateS l = D at *
  have hcm : ∀ c, c ≠ 0 → comesV D c = decide (D.headD 0 = c) := by
    intro c h0
    cases D with
    | nil => simp [comesV]; exact fun q => h0 q.symm
    | cons x D => unfold comesV; rw [List.head?_cons, Bool.eq_iff_iff]; simp
  have one : ∀ c, c ≠ 0 → D.headD 0 = c → 1 ≤ D.length := by
    intro c h0 h
    cases D with
    | nil => exact absurd h.symm h0
    | cons x D => simp
  refine Ev.bindc (show scan_New_string.f (strOfNums D) = some (strOfNums D, ((0 : Nat) : Int), none) from rfl) (Ev.bindc (sTake_is D hd 0 none 74 (by omega) (by omega)) ?_)
  simp only [leftV_none, List.drop_zero]
  rw [hcm 74 (by decide)]
  unfold dateP
  by_cases h74 : D.headD 0 = 74
  · rw [decide_eq_true h74, if_pos rfl, if_pos h74]
    have h1 := one 74 (by decide) h74
    have f := sFigures_is D hd 1 none 1 3 h1 (by omega)
    refine Ev.pos rfl (Ev.bind f ?_)
    by_cases o : numOk (D.drop 1) 1 3
    · rw [whole_ok D hd 1 h1 1 3 (by decide) (by decide) (by decide) o, if_pos o]
      exact fin 1 0 0 (numV (D.drop 1)) 0
    · obtain ⟨n, j, e, hs, hj, he⟩ := whole_no D hd 1 h1 1 3 (by decide) (by decide) (by decide) o
      rw [hs, if_neg o]
      exact bad j e 1 0 0 n 0 hj he
  · rw [decide_eq_false h74, if_neg (by decide), if_neg h74]
    refine Ev.neg (by decide) (Ev.bindc (sTake_is D hd 0 none 77 (by omega) (by omega)) ?_)
    simp only [leftV_none, List.drop_zero]
    rw [hcm 77 (by decide)]
    by_cases h77 : D.headD 0 = 77
    · rw [decide_eq_true h77, if_pos rfl, if_pos h77]
      have h1 := one 77 (by decide) h77
      refine Ev.pos rfl ?_
      rcases rweekly_is D hd (by omega) 1 h1 with ⟨m, w, d, hw, hv⟩ | ⟨hw, m, w, d, j, e, hv, hj, he⟩
      · refine Ev.bind hv ?_
        have hw' : (match spl 46 (D.drop 1) with | [A, B, C] => if numOk A 1 2 ∧ numOk B 1 1 ∧ numOk C 1 1 then some (3, numV A, numV B, numV C) else none | _ => none) = some ((3 : Int), m, w, d) := hw
        rw [hw']
        exact fin 3 m w d 0
      · refine Ev.bind hv ?_
        have hw' : (match spl 46 (D.drop 1) with | [A, B, C] => if numOk A 1 2 ∧ numOk B 1 1 ∧ numOk C 1 1 then some (3, numV A, numV B, numV C) else none | _ => none) = (none : Option (Int × Int × Int × Int)) := hw
        rw [hw']
        exact bad j e 3 m w d 0 hj he
    · rw [decide_eq_false h77, if_neg (by decide), if_neg h77]
      have f := sFigures_is D hd 0 none 1 3 (by omega) (by omega)
      refine Ev.neg (by decide) (Ev.bind f ?_)
      by_cases o : numOk D 1 3
      · have := whole_ok D hd 0 (by omega) 1 3 (by decide) (by decide) (by decide) o
        rw [this, if_pos o]
        exact fin 2 0 0 (numV D) 0
      · obtain ⟨n, j, e, hs, hj, he⟩ := whole_no D hd 0 (by omega) 1 3 (by decide) (by decide) (by decide) o
        rw [hs, if_neg o]
        exact bad j e 2 0 0 n 0 hj he
/-- The text of a right rule. -/
def kindT (k m w : Int) : List Int := if k = 1 then [74] else if k = 3 then 77 :: (rawV m.toNat 1 ++ (46 :: (rawV w.toNat 1 ++ [46]))) else []
def putT (k m w d t : Int) : List Int := kindT k m w ++ (rawV d.toNat 1 ++ (if t = 7200 then [] else 47 :: clockT t))
theorem wkind_is (k m w d : Int) (h : mayR k m w d) : Ev (fun n => wkind n k m w) (kindT k m w, none) := by
  unfold mayR at h
  unfold wkind kindT
  refine Ev.ite (fun h1 => ?_) (fun h1 => Ev.ite (fun h3 => ?_) (fun h3 => ?_))
  · rw [if_pos h1]
    exact Ev.bindc (show wtext [] ⟨#[74]⟩ = some [74] from wtext_is [] [74] (by unfold Byt; decide) (by decide)) (Ev.now _)
  · rw [if_neg h1, if_pos h3]
    have s1 := rawV_short m.toNat 0 (by omega) (by decide)
    have s2 := rawV_short w.toNat 0 (by omega) (by decide)
    have p1 := wput_is [77] none m 0 (by omega) (by decide) (by decide)
    have l1 : ([77] ++ rawV m.toNat (0 : Int).toNat).length ≤ 50 := by rw [List.length_append]; have : (rawV m.toNat (0 : Int).toNat).length ≤ 20 := s1; simp; omega
    have c1 := wtext_is ([77] ++ rawV m.toNat (0 : Int).toNat) [46] (by unfold Byt; decide) (by simp only [List.length_cons, List.length_nil]; omega)
    have p2 := wput_is ([77] ++ rawV m.toNat (0 : Int).toNat ++ [46]) none w 0 (by omega) (by decide) (by rw [List.length_append]; simp only [List.length_cons, List.length_nil]; omega)
    have l2 : ([77] ++ rawV m.toNat (0 : Int).toNat ++ [46] ++ rawV w.toNat (0 : Int).toNat).length ≤ 100 := by rw [List.length_append, List.length_append]; have : (rawV w.toNat (0 : Int).toNat).length ≤ 20 := s2; simp only [List.length_cons, List.length_nil]; omega
    have c2 := wtext_is ([77] ++ rawV m.toNat (0 : Int).toNat ++ [46] ++ rawV w.toNat (0 : Int).toNat) [46] (by unfold Byt; decide) (by simp only [List.length_cons, List.length_nil]; omega)
    refine Ev.bindc (show wtext [] ⟨#[77]⟩ = some [77] from wtext_is [] [77] (by unfold Byt; decide) (by decide)) (Ev.bind p1 (Ev.bindc (show wtext _ ⟨#[46]⟩ = some _ from c1) (Ev.bind p2 (Ev.bindc (show wtext _ ⟨#[46]⟩ = some _ from c2) (Ev.cast (Ev.now _) ?_)))))
    simp only [Prod.mk.injEq, and_true]
    simp [raw01]
  · rw [if_neg h1, if_neg h3]; exact Ev.now _
theorem kindT_short (k m w d : Int) (h : mayR k m w d) : (kindT k m w).length ≤ 60 := by
  unfold mayR at h
  unfold kindT
  split
  · simp
  · split
    · have s1 := rawV_short m.toNat 1 (by omega) (by decide)
      have s2 := rawV_short w.toNat 1 (by omega) (by decide)
      simp; omega
    · simp
theorem ruleput_is (k m w d t : Int) : Ev (fun n => rule_Put.f n k m w d t) (match chkV k m w d t with | none => (strOfNums (putT k m w d t), none) | some c => ((⟨#[]⟩ : ByteArray), some c)) := by
  unfold rule_Put.f
  refine Ev.bindc (chk_is k m w d t) ?_
  have hc := @chkV_none k m w d t
  cases hq : chkV k m w d t with
  | some c => exact Ev.neg (by simp) (Ev.now _)
  | none =>
    obtain ⟨hm, ht⟩ := hc hq
    have ks := kindT_short k m w d hm
    have hd : 0 ≤ d ∧ d ≤ 365 := by unfold mayR at hm; omega
    have ds := rawV_short d.toNat 0 (by omega) (by decide)
    unfold timeR at ht
    have p := wput_is (kindT k m w) none d 0 (by omega) (by decide) (by omega)
    have l1 : (kindT k m w ++ rawV d.toNat (0 : Int).toNat).length ≤ 90 := by rw [List.length_append]; have : (rawV d.toNat (0 : Int).toNat).length ≤ 20 := ds; omega
    refine Ev.pos rfl (Ev.bind (wkind_is k m w d hm) (Ev.bind p ?_))
    have wt : Ev (fun n => wtime n (kindT k m w ++ rawV d.toNat (0 : Int).toNat, none) t) (putT k m w d t, none) := by
      unfold wtime putT
      refine Ev.ite (fun h => ?_) (fun h => ?_)
      · rw [if_pos h, List.append_nil]; exact Ev.now _
      · rw [if_neg h]
        have c1 := wtext_is (kindT k m w ++ rawV d.toNat (0 : Int).toNat) [47] (by unfold Byt; decide) (by simp only [List.length_cons, List.length_nil]; omega)
        have cl := wclock_is (kindT k m w ++ rawV d.toNat (0 : Int).toNat ++ [47]) none t (by omega) (by rw [List.length_append]; simp only [List.length_cons, List.length_nil]; omega)
        refine Ev.bindc (show wtext _ ⟨#[47]⟩ = some _ from c1) (Ev.cast cl ?_)
        simp [raw01]
    exact Ev.bind wt (Ev.now _)
theorem spl_all {c : Int} {a : List Int} (h : ∀ x ∈ a, x ≠ c) : spl c a = [a] := by
  rw [spl_step, tw_none h, if_pos rfl]
theorem spl_app {c : Int} {a b : List Int} (h : ∀ x ∈ a, x ≠ c) : spl c (a ++ c :: b) = a :: spl c b := by
  induction a with
  | nil => rw [List.nil_append, spl_at, if_pos rfl]
  | cons x a ih =>
    rw [List.cons_append, spl_at, if_neg (h x (List.mem_cons_self ..)), ih (fun y hy => h y (List.mem_cons_of_mem _ hy))]
theorem raw_ne {n w : Nat} {c : Int} (hc : ¬ (48 ≤ c ∧ c ≤ 57)) : ∀ x ∈ rawV n w, x ≠ c := fun x hx q => by
  have := rawV_figs n w x hx
  rw [q] at this; exact hc this
theorem raw_ok {n w : Nat} (a b : Int) (h1 : a ≤ ((rawV n w).length : Int)) (h2 : ((rawV n w).length : Int) ≤ b) : numOk (rawV n w) a b := ⟨h1, h2, figrun_self (rawV_figs n w)⟩
theorem raw1_len {n : Nat} (k : Nat) (h : n < 10 ^ k) (hk : 1 ≤ k) : 1 ≤ (rawV n 1).length ∧ (rawV n 1).length ≤ k := by
  have := digs_len n k h
  rw [rawV_len]; omega
theorem raw2_len {n : Nat} (h : n < 100) : (rawV n 2).length = 2 := by
  have := digs_len n 2 (by have : (10 : Nat) ^ 2 = 100 := by decide
                           omega)
  rw [rawV_len]; omega
theorem clock_back (t : Int) (h : -604799 ≤ t ∧ t ≤ 604799) : clockP (clockT t) 167 = (t, none) := by
  have hn : t.natAbs ≤ 604799 := by omega
  have p3 : (10 : Nat) ^ 3 = 1000 := by decide
  have r1 := raw1_len (n := t.natAbs / 3600) 3 (by omega) (by decide)
  have f1 := rawV_figs (t.natAbs / 3600) 1
  have nh : ¬ (48 ≤ (58 : Int) ∧ (58 : Int) ≤ 57) := by decide
  have hd : 48 ≤ (clock0 t.natAbs).headD 0 ∧ (clock0 t.natAbs).headD 0 ≤ 57 := by
    unfold clock0
    cases hr : rawV (t.natAbs / 3600) 1 with
    | nil => rw [hr] at r1; simp at r1
    | cons x r =>
      rw [hr] at f1
      exact f1 x (List.mem_cons_self ..)
  have e1 : clockP (clockT t) 167 = clkV (spl 58 (clock0 t.natAbs)) 167 (if t < 0 then -1 else 1) := by
    unfold clockP clockT siV sgV
    rw [if_pos (by decide)]
    by_cases hneg : t < 0
    · simp only [if_pos hneg]; rfl
    · simp only [if_neg hneg, List.nil_append]
      rw [if_neg (by omega), if_neg (by omega)]; rfl
  rw [e1]
  have o1 : numOk (rawV (t.natAbs / 3600) 1) 1 3 := raw_ok 1 3 (by omega) (by omega)
  have v1 := numV_raw (t.natAbs / 3600) 1
  have sg : ∀ x : Int, x = (t.natAbs : Int) → (if t < 0 then (-1 : Int) else 1) * x = t := by
    intro x hx
    split <;> omega
  unfold clock0
  by_cases g1 : t.natAbs % 3600 = 0
  · rw [if_pos g1, List.append_nil, spl_all (raw_ne nh)]
    unfold clkV
    simp only
    rw [if_pos o1, v1, if_neg (by omega), sg _ (by omega)]
  · rw [if_neg g1, spl_app (raw_ne nh)]
    have r2 := raw2_len (n := t.natAbs % 3600 / 60) (by omega)
    have o2 : numOk (rawV (t.natAbs % 3600 / 60) 2) 2 2 := raw_ok 2 2 (by omega) (by omega)
    have v2 := numV_raw (t.natAbs % 3600 / 60) 2
    by_cases g2 : t.natAbs % 60 = 0
    · rw [if_pos g2, List.append_nil, spl_all (raw_ne nh)]
      unfold clkV
      simp only
      rw [if_pos (show numOk _ 1 3 ∧ numOk _ 2 2 from ⟨o1, o2⟩), v1, v2, if_neg (by omega), sg _ (by omega)]
    · rw [if_neg g2, spl_app (raw_ne nh), spl_all (raw_ne nh)]
      have r3 := raw2_len (n := t.natAbs % 60) (by omega)
      have o3 : numOk (rawV (t.natAbs % 60) 2) 2 2 := raw_ok 2 2 (by omega) (by omega)
      have v3 := numV_raw (t.natAbs % 60) 2
      unfold clkV
      simp only
      rw [if_pos (show numOk _ 1 3 ∧ numOk _ 2 2 ∧ numOk _ 2 2 from ⟨o1, o2, o3⟩), v1, v2, v3, if_neg (by omega), sg _ (by omega)]
theorem tw_app {c : Int} {a b : List Int} (h : ∀ x ∈ a, x ≠ c) : tw c (a ++ c :: b) = a := by
  unfold tw
  rw [List.takeWhile_append_of_pos (fun x hx => by simpa using h x hx), List.takeWhile_cons, if_neg (by simp), List.append_nil]
theorem ne_app {c : Int} {a b : List Int} (ha : ∀ x ∈ a, x ≠ c) (hb : ∀ x ∈ b, x ≠ c) : ∀ x ∈ a ++ b, x ≠ c := fun x hx => (List.mem_append.mp hx).elim (ha x) (hb x)
theorem ne_cons {c y : Int} {b : List Int} (hy : y ≠ c) (hb : ∀ x ∈ b, x ≠ c) : ∀ x ∈ y :: b, x ≠ c := fun x hx => (List.mem_cons.mp hx).elim (fun e => e ▸ hy) (hb x)
theorem date_back (k m w d : Int) (h : mayR k m w d) : dateP (kindT k m w ++ rawV d.toNat 1) = some (k, m, w, d) ∧ ∀ x ∈ kindT k m w ++ rawV d.toNat 1, x ≠ 47 := by
  unfold mayR at h
  have hd : 0 ≤ d ∧ d ≤ 365 := by omega
  have p3 : (10 : Nat) ^ 3 = 1000 := by decide
  have p2 : (10 : Nat) ^ 2 = 100 := by decide
  have p1 : (10 : Nat) ^ 1 = 10 := by decide
  have r := raw1_len (n := d.toNat) 3 (by omega) (by decide)
  have f := rawV_figs d.toNat 1
  have v := numV_raw d.toNat 1
  have ed : ((d.toNat : Nat) : Int) = d := by omega
  unfold kindT
  by_cases h1 : k = 1
  · subst h1
    rw [if_pos rfl]
    refine ⟨?_, fun x hx => ?_⟩
    · unfold dateP
      rw [if_pos (show (([74] : List Int) ++ rawV d.toNat 1).headD 0 = 74 from rfl)]
      rw [show (([74] : List Int) ++ rawV d.toNat 1).drop 1 = rawV d.toNat 1 from rfl, if_pos (raw_ok 1 3 (by omega) (by omega)), v, ed]
      have : m = 0 ∧ w = 0 := by omega
      rw [this.1, this.2]
    · rcases List.mem_append.mp hx with q | q
      · simp at q; omega
      · exact raw_ne (by decide) x q
  · rw [if_neg h1]
    by_cases h3 : k = 3
    · subst h3
      rw [if_pos rfl]
      have rm := raw1_len (n := m.toNat) 2 (by omega) (by decide)
      have rw_ := raw1_len (n := w.toNat) 1 (by omega) (by decide)
      have rd := raw1_len (n := d.toNat) 1 (by omega) (by decide)
      have vm := numV_raw m.toNat 1
      have vw := numV_raw w.toNat 1
      refine ⟨?_, fun x hx => ?_⟩
      · unfold dateP
        rw [if_neg (show ¬ ((((77 : Int) :: (rawV m.toNat 1 ++ (46 :: (rawV w.toNat 1 ++ [46])))) ++ rawV d.toNat 1).headD 0 = 74) by show ¬ (77 : Int) = 74; decide), if_pos (show (((77 : Int) :: (rawV m.toNat 1 ++ (46 :: (rawV w.toNat 1 ++ [46])))) ++ rawV d.toNat 1).headD 0 = 77 from rfl)]
        have e : (((77 : Int) :: (rawV m.toNat 1 ++ (46 :: (rawV w.toNat 1 ++ [46])))) ++ rawV d.toNat 1).drop 1 = rawV m.toNat 1 ++ 46 :: (rawV w.toNat 1 ++ 46 :: rawV d.toNat 1) := by simp
        rw [e, spl_app (raw_ne (by decide)), spl_app (raw_ne (by decide)), spl_all (raw_ne (by decide))]
        simp only
        rw [if_pos ⟨raw_ok 1 2 (by omega) (by omega), raw_ok 1 1 (by omega) (by omega), raw_ok 1 1 (by omega) (by omega)⟩, vm, vw, v, ed, show ((m.toNat : Nat) : Int) = m by omega, show ((w.toNat : Nat) : Int) = w by omega]
      · exact ne_app (ne_cons (by decide) (ne_app (raw_ne (by decide)) (ne_cons (by decide) (ne_app (raw_ne (by decide)) (ne_cons (by decide) (fun y hy => by cases hy)))))) (raw_ne (by decide)) x hx
    · have h2 : k = 2 ∧ m = 0 ∧ w = 0 := by omega
      obtain ⟨rfl, rfl, rfl⟩ := h2
      rw [if_neg h3, List.nil_append]
      have hh : 48 ≤ (rawV d.toNat 1).headD 0 ∧ (rawV d.toNat 1).headD 0 ≤ 57 := by
        cases hr : rawV d.toNat 1 with
        | nil => rw [hr] at r; simp at r
        | cons x q => rw [hr] at f; exact f x (List.mem_cons_self ..)
      refine ⟨?_, raw_ne (by decide)⟩
      unfold dateP
      rw [if_neg (by omega), if_neg (by omega), if_pos (raw_ok 1 3 (by omega) (by omega)), v, ed]
theorem rule_back (k m w d t : Int) (h : mayR k m w d) (ht : timeR t) : ruleP (putT k m w d t) = (k, m, w, d, t, none) := by
  obtain ⟨a, b⟩ := date_back k m w d h
  have hc : ∀ u, timeR u → chkV k m w d u = none := by
    intro u hu
    unfold chkV
    rw [if_pos (by unfold mayR at h; omega), if_pos ⟨h, hu⟩]
  by_cases h7 : t = 7200
  · have e : putT k m w d t = kindT k m w ++ rawV d.toNat 1 := by unfold putT; rw [if_pos h7, List.append_nil]
    have hD : dateS (putT k m w d t) = kindT k m w ++ rawV d.toNat 1 := by unfold dateS; rw [e, tw_none b]
    have hT : ¬ timed (putT k m w d t) := by
      unfold timed
      rw [e, tw_none b]; simp
    unfold ruleP
    rw [hD, a]
    simp only
    rw [if_neg hT]
    unfold ruleC
    rw [hc 7200 (by unfold timeR; decide), h7]
  · have e : putT k m w d t = (kindT k m w ++ rawV d.toNat 1) ++ 47 :: clockT t := by unfold putT; rw [if_neg h7, List.append_assoc]
    have hD : dateS (putT k m w d t) = kindT k m w ++ rawV d.toNat 1 := by unfold dateS; rw [e, tw_app b]
    have hT : timed (putT k m w d t) := by
      unfold timed
      rw [e, tw_app b]; simp
    have hS : timeS (putT k m w d t) = clockT t := by
      unfold timeS
      rw [e, tw_app b, ← List.drop_drop, List.drop_left]; rfl
    unfold ruleP
    rw [hD, a]
    simp only
    rw [if_pos hT, hS, clock_back t ht]
    simp only
    unfold ruleC
    rw [hc t ht]
theorem alive_is : Ev (fun k => horologelaw16_alive.f k) true := Ev.of (fun k => horologelaw16_alive.mono k) (k := 40) (by kernel_rfl)
theorem putT_byt (k m w d t : Int) (h : mayR k m w d) (ht : timeR t) : Byt (putT k m w d t) ∧ (putT k m w d t).length ≤ 300 := by
  have ks := kindT_short k m w d h
  have hd : 0 ≤ d ∧ d ≤ 365 := by unfold mayR at h; omega
  have ds := rawV_short d.toNat 1 (by omega) (by decide)
  unfold timeR at ht
  obtain ⟨c1, c2⟩ := clock0_short t.natAbs (by omega)
  have kb : Byt (kindT k m w) := by
    unfold kindT
    split
    · unfold Byt; decide
    · split
      · intro x hx
        simp only [List.mem_cons, List.mem_append, List.mem_nil_iff, or_false] at hx
        rcases hx with q | q | q | q | q
        · omega
        · exact rawV_byt _ _ x q
        · omega
        · exact rawV_byt _ _ x q
        · omega
      · intro x hx; cases hx
  have ct : Byt (clockT t) ∧ (clockT t).length ≤ 71 := by
    unfold clockT
    refine ⟨byt_append ?_ c2, ?_⟩
    · split
      · unfold Byt; decide
      · intro x hx; cases hx
    · rw [List.length_append]
      split <;> simp <;> omega
  unfold putT
  refine ⟨byt_append kb (byt_append (rawV_byt _ _) ?_), ?_⟩
  · split
    · intro x hx; cases hx
    · intro x hx
      rcases List.mem_cons.mp hx with q | q
      · omega
      · exact ct.1 x q
  · rw [List.length_append, List.length_append]
    split
    · simp; omega
    · rw [List.length_cons]; omega
end Go.Proofs.Ytnjeemghkpgcfaa.MRuleBack
namespace Go.Proofs.Ytnjeemghkpgcfaa.Pure
open Go.RowKit Go.Proofs.Ytnjeemghkpgcfaa.MRuleBack Go.Proofs.YtnjeemghkpgcfaaW.PrintWords Go.Proofs.YtnjeemghkpgcfaaW.PrintLast Go.Proofs.Ytnjeemghkpgcfaa.Base
set_option linter.unusedVariables false
set_option linter.unusedSimpArgs false
theorem RuleBack : horologelaw16_RuleBack.Pure := by
  intro k m w d t s hk hm hw hd ht hs
  refine Ev.ok (g := fun n => horologelaw16_RuleBack.f n k m w d t s) ?_
  unfold horologelaw16_RuleBack.f
  have tail : Ev (fun n => (rule_Put.f n k m w d t).bind fun bt368 => (if bt368.2.isNone = true then ((rule_Parse.f n bt368.1).bind fun bt371 => (if bt371.2.2.2.2.2.isNone = true then (some (bt371.1 == k && (bt371.2.1 == m && (bt371.2.2.1 == w && (bt371.2.2.2.1 == d && (bt371.2.2.2.2.1 == t)))))) else (some false))) else ((rule_Check.f k m w d t).bind fun t379 => (if t379.isNone = true then (some false) else (some true))))) true := by
    refine Ev.bind (ruleput_is k m w d t) ?_
    have hc := @chkV_none k m w d t
    cases hq : chkV k m w d t with
    | some c =>
      refine Ev.neg (by simp) (Ev.bindc (chk_is k m w d t) ?_)
      rw [hq]
      exact Ev.neg (by simp) (Ev.now _)
    | none =>
      obtain ⟨h1, h2⟩ := hc hq
      obtain ⟨b1, b2⟩ := putT_byt k m w d t h1 h2
      have p := ruleparse_is (putT k m w d t) b1 (by omega)
      rw [rule_back k m w d t h1 h2] at p
      exact Ev.pos rfl (Ev.bind p (Ev.pos rfl (Ev.cast (Ev.now _) (by simp))))
  refine Ev.bind alive_is (Ev.pos rfl ?_)
  by_cases h : -604799 ≤ s ∧ s ≤ 604799
  · have c0 := clock0_short s.natAbs (by omega)
    have cb : Byt (clockT s) ∧ (clockT s).length ≤ 71 := by
      unfold clockT
      refine ⟨byt_append ?_ c0.2, ?_⟩
      · split
        · unfold Byt; decide
        · intro x hx; cases hx
      · rw [List.length_append]
        split <;> simp <;> omega
    have p := parseclock_is (clockT s) cb.1 (by omega) 167
    rw [clock_back s h] at p
    exact Ev.bind (putclock_is s 167 (by decide) (by omega)) (Ev.pos rfl (Ev.bind p (Ev.pos rfl (Ev.pos rfl tail))))
  · exact Ev.bind (putclock_not s 167 (Or.inr (by omega))) (Ev.neg (by simp) tail)
end Go.Proofs.Ytnjeemghkpgcfaa.Pure
