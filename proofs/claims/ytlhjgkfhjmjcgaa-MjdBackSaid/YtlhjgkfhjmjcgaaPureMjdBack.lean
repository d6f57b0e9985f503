/- MjdBack: Count and Day undo one another, and a count is one more each day; so of five figures. For every input of Go's kinds; no further condition. -/
import Derived.Test.YtlhjgkfhjmjcgaaMMjdBackx
import Derived.Test.YtlhjgkfhjmjcgaaCalBase
import Derived.Test.YtlhjgkfhjmjcgaaFigBase
namespace Go.Proofs.Ytlhjgkfhjmjcgaa.MMjdBack
open Go.RowKit Go.Proofs.YtlhjgkfhjmjcgaaW.PrintWords Go.Proofs.YtlhjgkfhjmjcgaaW.PrintLast Go.Proofs.YtlhjgkfhjmjcgaaW.PrintMore Go.Proofs.Ytlhjgkfhjmjcgaa.Base
set_option linter.unusedVariables false
set_option linter.unusedSimpArgs false

theorem rev_l0 (l : List Int) (hn : l.length ≤ 1000000) (m : Nat) : ∀ (x : List Int) (i : Nat), x.length = l.length → 2 * i + m ≥ l.length → 2 * i ≤ l.length + 1 →
    (∀ t : Nat, t < l.length → rd x t = if t < i ∨ l.length - 1 - i < t then rd l ((l.length - 1 - t : Nat) : Int) else rd l t) →
      Ev (fun k => slices_Reverse_byte_byte.l0 k x i ((l.length : Int) - 1 - i)) l.reverse := by
  induction m with
  | zero =>
    intro x i hl hm h2 h
    refine Ev.up ?_
    simp only [slices_Reverse_byte_byte.l0]
    refine Ev.neg (by omega) ?_
    rw [← rev_of hl (fun t ht => ?_)]
    · exact Ev.now _
    · rw [h t ht]
      by_cases q : t < i ∨ l.length - 1 - i < t
      · rw [if_pos q]
      · rw [if_neg q, show l.length - 1 - t = t by omega]
  | succ m ih =>
    intro x i hl hm h2 h
    by_cases hgo : 2 * i + 1 < l.length
    · have ej : (l.length : Int) - 1 - i = ((l.length - 1 - i : Nat) : Int) := by omega
      refine Ev.up ?_
      simp only [slices_Reverse_byte_byte.l0, ej]
      refine Ev.pos (by omega) (Ev.pos (by omega) (Ev.pos (by omega) (Ev.pos (by omega) (Ev.pos (by omega) ?_))))
      rw [wr (n := (i : Int) + 1) (by omega), wr (n := ((l.length - 1 - i : Nat) : Int) - 1) (by omega)]
      have := ih ((x.set (i : Int).toNat (rd x ((l.length - 1 - i : Nat) : Int))).set ((l.length - 1 - i : Nat) : Int).toNat (rd x i)) (i + 1) (by simp [hl]) (by omega) (by omega) (by
        intro t ht
        simp only [Int.toNat_natCast]
        rw [rd_set _ _ _ (by simp; omega), rd_set _ _ _ (by omega)]
        by_cases t1 : t = l.length - 1 - i
        · rw [if_pos t1, if_pos (by omega), h i (by omega), if_neg (by omega), show l.length - 1 - t = i by omega]
        · rw [if_neg t1]
          by_cases t2 : t = i
          · rw [if_pos t2, if_pos (by omega), h _ (by omega), if_neg (by omega), t2]
          · rw [if_neg t2, h t ht]
            by_cases t3 : t < i ∨ l.length - 1 - i < t
            · rw [if_pos t3, if_pos (by omega)]
            · rw [if_neg t3, if_neg (by omega)])
      rw [show (l.length : Int) - 1 - ((i + 1 : Nat) : Int) = ((l.length - 1 - i : Nat) : Int) - 1 by omega] at this
      exact this
    · exact (by
        refine Ev.up ?_
        simp only [slices_Reverse_byte_byte.l0]
        refine Ev.neg (by omega) ?_
        rw [← rev_of hl (fun t ht => ?_)]
        · exact Ev.now _
        · rw [h t ht]
          by_cases q : t < i ∨ l.length - 1 - i < t
          · rw [if_pos q]
          · rw [if_neg q, show l.length - 1 - t = t by omega])
theorem rev_is (l : List Int) (hn : l.length ≤ 1000000) : Ev (fun k => slices_Reverse_byte_byte.f k l) l.reverse := by
  unfold slices_Reverse_byte_byte.f
  rw [wr (by omega)]
  have := rev_l0 l hn l.length l 0 rfl (by omega) (by omega) (fun t ht => by rw [if_neg (by omega)])
  simpa using this
theorem raw_pad (w : Int) (hw : 0 ≤ w ∧ w ≤ 1000) (m : Nat) : ∀ out : List Int, out.length ≤ 1000 → (max w.toNat 1 - out.length) ≤ m → Ev (fun k => figures_raw.l0 k 0 w out) (strOfNums ((out ++ List.replicate (max w.toNat 1 - out.length) 48).reverse)) := by
  have hx : mx w 1 = ((max w.toNat 1 : Nat) : Int) := by unfold mx; split <;> omega
  induction m with
  | zero =>
    intro out ho hm
    refine Ev.up ?_
    simp only [figures_raw.l0, hx]
    refine Ev.neg (by omega) (Ev.neg (by omega) (Ev.bind (rev_is out (by omega)) ?_))
    rw [show max w.toNat 1 - out.length = 0 by omega, List.replicate_zero, List.append_nil]
    exact Ev.now _
  | succ m ih =>
    intro out ho hm
    by_cases h : out.length < max w.toNat 1
    · refine Ev.up ?_
      simp only [figures_raw.l0, hx]
      have w1 : IntKind.u64.wrap (Int.tdiv 0 10) = 0 := by decide
      have w2 : (48 + Int.tmod 0 10) % 256 = 48 := by decide
      rw [w1, w2]
      refine Ev.neg (by omega) (Ev.pos (by omega) (Ev.pos (by omega) ?_))
      have := ih (out ++ [48]) (by simp; omega) (by simp; omega)
      rw [snoc_rep, show max w.toNat 1 - (out ++ [(48 : Int)]).length + 1 = max w.toNat 1 - out.length by simp; omega] at this
      exact this
    · exact ih out ho (by omega)
theorem raw_l0 (w : Int) (hw : 0 ≤ w ∧ w ≤ 100) (n : Nat) : ∀ out : List Int, n < 18446744073709551616 → out.length + (digs n).length ≤ 200 →
    Ev (fun k => figures_raw.l0 k (n : Int) w out) (strOfNums ((out ++ digs n ++ List.replicate (max w.toNat 1 - (out ++ digs n).length) 48).reverse)) := by
  induction n using Nat.strongRecOn with
  | ind n ih =>
    intro out hn ho
    by_cases h : n = 0
    · subst h
      rw [digs_zero, List.append_nil]
      exact raw_pad w (by omega) _ out (by omega) (Nat.le_refl _)
    · have e := digs_pos (show 0 < n by omega)
      refine Ev.up ?_
      simp only [figures_raw.l0]
      refine Ev.pos (by omega) (Ev.pos (by omega) ?_)
      have w1 : IntKind.u64.wrap (Int.tdiv (n : Int) 10) = ((n / 10 : Nat) : Int) := by rw [tdiv_is, if_neg (by omega), wrap_u64]; omega
      have w2 : (48 + Int.tmod (n : Int) 10) % 256 = 48 + (n : Int) % 10 := by rw [tmod_is, if_neg (by omega)]; omega
      rw [w1, w2]
      have := ih (n / 10) (by omega) (out ++ [48 + (n : Int) % 10]) (by omega) (by rw [e] at ho; simp at ho ⊢; omega)
      rw [show out ++ [48 + (n : Int) % 10] ++ digs (n / 10) = out ++ digs n by rw [e]; simp] at this
      exact this
theorem raw_is (n : Nat) (w : Int) (hn : n < 18446744073709551616) (hw : 0 ≤ w ∧ w ≤ 100) : Ev (fun k => figures_raw.f k (n : Int) w) (strOfNums (rawV n w.toNat)) := by
  have l := digs_len n 20 (by omega)
  have := raw_l0 w hw n [] hn (by simp; omega)
  rw [List.nil_append, List.reverse_append, List.reverse_replicate] at this
  exact this
/-- The text of a number with its sign. -/
def putV (n : Int) (w : Nat) : List Int := if n < 0 then 45 :: rawV (-n).toNat w else rawV n.toNat w
theorem put_is (n w : Int) (hn : I64 n) (hw : 0 ≤ w ∧ w ≤ 20) : Ev (fun k => figures_Put.f k n w) (strOfNums (putV n w.toNat), none) := by
  unfold I64 at hn
  unfold figures_Put.f
  refine Ev.neg (by omega) ?_
  rw [decide_eq_false (by omega)]
  refine Ev.up ?_
  simp only [figures_Put.j0, Bool.false_eq_true, if_false]
  unfold putV
  refine Ev.ite (fun h => ?_) (fun h => ?_)
  · rw [if_pos h, show IntKind.u64.wrap (-IntKind.u64.wrap n) = (((-n).toNat : Nat) : Int) by rw [wrap_u64, wrap_u64]; omega]
    refine Ev.bind (raw_is (-n).toNat w (by omega) (by omega)) (Ev.pos ?_ ?_)
    · rw [son_size, rawV_len]
      have := digs_len (-n).toNat 20 (by omega)
      omega
    · rw [show (⟨#[45]⟩ : ByteArray) = strOfNums [45] from rfl, son_append]
      exact Ev.now _
  · rw [if_neg h, show IntKind.u64.wrap n = ((n.toNat : Nat) : Int) by rw [wrap_u64]; omega]
    exact Ev.bind (raw_is n.toNat w (by omega) (by omega)) (Ev.now _)
theorem first_is : day_First.f = some (-4371587) := by kernel_rfl
theorem last_is : day_Last.f = some 2932896 := by kernel_rfl
/-- The count of day 0, by its kind; 0: no kind. -/
def zeroV (kind : Int) : Int := if kind = 1 then 40587 else if kind = 2 then 2440588 else if kind = 3 then 25567 else if kind = 4 then -3657 else 0
def isKind (kind : Int) : Prop := 1 ≤ kind ∧ kind ≤ 4
instance (kind : Int) : Decidable (isKind kind) := inferInstanceAs (Decidable (_ ∧ _))
theorem zeroV_bd (kind : Int) : -3657 ≤ zeroV kind ∧ zeroV kind ≤ 2440588 := by unfold zeroV; repeat' split
                                                                                all_goals omega
theorem zero_is (kind : Int) : mjd_zero.f kind = some (if isKind kind then (zeroV kind, none) else (0, some 11)) := by
  unfold mjd_zero.f zeroV isKind
  by_cases h1 : kind = 1
  · subst h1; rfl
  · by_cases h2 : kind = 2
    · subst h2; rfl
    · by_cases h3 : kind = 3
      · subst h3; rfl
      · by_cases h4 : kind = 4
        · subst h4; rfl
        · simp only [if_neg h1, if_neg h2, if_neg h3, if_neg h4, if_neg (show ¬ (1 ≤ kind ∧ kind ≤ 4) by omega)]
def isDay (n : Int) : Prop := -4371587 ≤ n ∧ n ≤ 2932896
instance (n : Int) : Decidable (isDay n) := inferInstanceAs (Decidable (_ ∧ _))
theorem there_is (n : Int) : mjd_there.f n = some (decide (isDay n)) := by
  unfold mjd_there.f
  rw [first_is, last_is]
  simp only [Option.bind_some]
  split
  · congr 1; apply decide_eq_decide.mpr; unfold isDay; omega
  · congr 1; symm; apply decide_eq_false; unfold isDay; omega
def countV (kind n : Int) : Int × Option Int := if isKind kind then (if isDay n then (n + zeroV kind, none) else (0, some 13)) else (0, some 11)
theorem count_is (kind n : Int) : mjd_Count.f kind n = some (countV kind n) := by
  unfold mjd_Count.f countV
  rw [zero_is]
  simp only [Option.bind_some]
  by_cases hk : isKind kind
  · simp only [if_pos hk, Option.isNone_none, if_true, there_is, Option.bind_some]
    by_cases hd : isDay n
    · rw [if_pos (decide_eq_true hd), if_pos hd]
      have := zeroV_bd kind
      unfold isDay at hd
      rw [wr (by omega)]
    · rw [if_neg (by rw [decide_eq_false hd]; decide), if_neg hd]
  · simp only [if_neg hk]; rfl
theorem countV_I64 (kind n : Int) : I64 (countV kind n).1 := by
  have := zeroV_bd kind
  unfold countV
  by_cases hk : isKind kind
  · rw [if_pos hk]
    by_cases hd : isDay n
    · rw [if_pos hd]; unfold isDay at hd; unfold I64; simp only; omega
    · rw [if_neg hd]; unfold I64; simp
  · rw [if_neg hk]; unfold I64; simp
theorem countV_small (kind n : Int) : (countV kind n).1 ≠ -9223372036854775808 := by
  have := zeroV_bd kind
  unfold countV
  by_cases hk : isKind kind
  · rw [if_pos hk]
    by_cases hd : isDay n
    · rw [if_pos hd]; unfold isDay at hd; simp only; omega
    · rw [if_neg hd]; simp
  · rw [if_neg hk]; simp
theorem countV_err (kind n : Int) : ∀ e, (countV kind n).2 = some e → e ≠ 0 := by
  intro e
  unfold countV
  by_cases hk : isKind kind
  · rw [if_pos hk]
    by_cases hd : isDay n
    · rw [if_pos hd]; simp
    · rw [if_neg hd]; simp; omega
  · rw [if_neg hk]; simp; omega
theorem is_is (c : Int) : figures_Is.f c = some (decide (figb c)) := by
  unfold figures_Is.f
  split
  · congr 1; exact decide_eq_decide.mpr ⟨fun q => ⟨by omega, q⟩, fun q => q.2⟩
  · congr 1; exact (decide_eq_false (fun q => by unfold figb at q; omega)).symm
theorem mn_nat (a : Nat) (m : Int) (hm : 0 ≤ m) : mn (a : Int) m = ((min m.toNat a : Nat) : Int) := by unfold mn; split <;> omega
theorem run_l0 (s : ByteArray) (m : Int) (hm : 0 ≤ m) (hs : s.size ≤ 140737488351232) (f : Nat) : ∀ i : Nat, i + f = min m.toNat s.size → Ev (fun k => figures_run.l0 k s m i) ((runG s i f : Nat) : Int) := by
  induction f with
  | zero =>
    intro i hi
    refine Ev.up ?_
    simp only [figures_run.l0, mn_nat _ _ hm, runG]
    exact Ev.neg (by omega) (Ev.now _)
  | succ f ih =>
    intro i hi
    refine Ev.up ?_
    simp only [figures_run.l0, mn_nat _ _ hm, is_is, Option.bind_some]
    refine Ev.pos (by omega) (Ev.pos (by omega) (Ev.pos (by omega) (Ev.ite (fun h => ?_) (fun h => ?_))))
    · rw [wr (n := (i : Int) + 1) (by omega)]
      unfold runG
      rw [if_pos (of_decide_eq_true h)]
      exact ih (i + 1) (by omega)
    · unfold runG
      rw [if_neg (fun q => h (decide_eq_true q))]
      exact Ev.now _
theorem run_is (s : ByteArray) (m : Int) (hm : 0 ≤ m) (hs : s.size ≤ 140737488351232) : Ev (fun k => figures_run.f k s m) ((runV s m.toNat : Nat) : Int) := by
  unfold figures_run.f
  exact run_l0 s m hm hs _ 0 (by omega)
theorem value_l0 (s : ByteArray) (L : Int) (hL : 100 ≤ L ∧ L ≤ 18446744073709551615) (hs : s.size ≤ 140737488351232) (hf : ∀ i : Nat, i < s.size → figb (bt s i)) (m : Nat) : ∀ i : Nat, i + m = s.size → nv s i ≤ L →
    Ev (fun k => figures_value.l0 k s L (nv s i) (s.size : Int) i) (if nv s s.size > L then (0, some 5) else (nv s s.size, none)) := by
  induction m with
  | zero =>
    intro i hi hv
    rw [show s.size = i by omega]
    refine Ev.up ?_
    simp only [figures_value.l0]
    rw [if_neg (by omega)]
    exact Ev.neg (by omega) (Ev.now _)
  | succ m ih =>
    intro i hi hv
    have hd := hf i (by omega)
    unfold figb at hd
    have h0 := nv_nonneg s i (fun j hj => hf j (by omega))
    have w1 : (bt s i - 48) % 256 = bt s i - 48 := by omega
    have w2 : IntKind.u64.wrap (Int.tdiv (IntKind.u64.wrap (L - (bt s i - 48))) 10) = (L - (bt s i - 48)) / 10 := by rw [wrap_u64 (L - _), tdiv_is, if_neg (by omega), wrap_u64]; omega
    refine Ev.up ?_
    simp only [figures_value.l0, w1, w2]
    refine Ev.pos (by omega) (Ev.pos (by omega) (Ev.pos (by omega) (Ev.ite (fun h => ?_) (fun h => ?_))))
    · have hm : nv s (i + 1) ≤ nv s s.size := nv_mono s (fun j hj => hf j hj) (by omega)
      simp only [nv] at hm
      rw [if_pos (by omega)]
      exact Ev.now _
    · have w3 : IntKind.u64.wrap (IntKind.u64.wrap (nv s i * 10) + (bt s i - 48)) = nv s (i + 1) := by simp only [nv]; rw [wrap_u64, wrap_u64]; omega
      rw [w3, wr (n := (i : Int) + 1) (by omega)]
      exact ih (i + 1) (by omega) (by simp only [nv]; omega)
theorem value_is (s : ByteArray) (L : Int) (hL : 100 ≤ L ∧ L ≤ 18446744073709551615) (hs : s.size ≤ 140737488351232) (hf : ∀ i : Nat, i < s.size → figb (bt s i)) :
    Ev (fun k => figures_value.f k s L) (if nv s s.size > L then (0, some 5) else (nv s s.size, none)) := by
  unfold figures_value.f
  have := value_l0 s L hL hs hf s.size 0 (by omega) (by simp only [nv]; omega)
  simpa [nv] using this
theorem runV_figs (s : ByteArray) (m : Nat) : ∀ i : Nat, i < runV s m → figb (bt s i) := fun i hi => runG_figs s _ 0 i (by omega) hi
/-- What the figures that a text begins with come to. -/
def takeV (s : ByteArray) (least most L : Int) : Int × Int × Option Int :=
  if least < 1 ∨ least > most ∨ most > 20 then (0, 0, some 1)
  else if (runV s most.toNat : Int) < least then (0, 0, some 2)
  else if nv s (runV s most.toNat) > L then (0, 0, some 5)
  else (nv s (runV s most.toNat), runV s most.toNat, none)
theorem take_is (s : ByteArray) (least most L : Int) (hL : 100 ≤ L ∧ L ≤ 18446744073709551615) (hs : s.size ≤ 140737488351232) : Ev (fun k => figures_take.f k s least most L) (takeV s least most L) := by
  unfold figures_take.f takeV
  have bad : (least < 1 ∨ least > most ∨ most > 20) → Ev (fun k => figures_take.j0 k s least most L true) (if least < 1 ∨ least > most ∨ most > 20 then (0, 0, some 1) else if (runV s most.toNat : Int) < least then (0, 0, some 2) else if nv s (runV s most.toNat) > L then (0, 0, some 5) else (nv s (runV s most.toNat), ((runV s most.toNat : Nat) : Int), none)) := by
    intro h
    rw [if_pos h]
    refine Ev.up ?_
    simp only [figures_take.j0, if_true]
    exact Ev.now _
  refine Ev.ite (fun h => bad (Or.inl h)) (fun h1 => Ev.ite (fun h => bad (Or.inr (Or.inl h))) (fun h2 => ?_))
  by_cases h3 : most > 20
  · rw [decide_eq_true h3]; exact bad (Or.inr (Or.inr h3))
  · rw [decide_eq_false h3, if_neg (by omega)]
    refine Ev.up ?_
    simp only [figures_take.j0, Bool.false_eq_true, if_false]
    refine Ev.bind (run_is s most (by omega) hs) (Ev.ite (fun h => ?_) (fun h => ?_))
    · rw [if_pos h]; exact Ev.now _
    · rw [if_neg h]
      have rb := runV_bd s most.toNat
      have hx : (s.extract 0 ((runV s most.toNat : Nat) : Int).toNat).size = runV s most.toNat := size_extract s _ rb.2
      have hv := value_is (s.extract 0 ((runV s most.toNat : Nat) : Int).toNat) L hL (by rw [hx]; omega) (by
        rw [hx]
        intro i hi
        rw [Int.toNat_natCast, bt_extract s _ i hi rb.2]
        exact runV_figs s _ i hi)
      rw [hx] at hv
      rw [show nv (s.extract 0 ((runV s most.toNat : Nat) : Int).toNat) (runV s most.toNat) = nv s (runV s most.toNat) from nv_extract s _ rb.2 _ (Nat.le_refl _)] at hv
      refine Ev.pos (by omega) (Ev.pos (by omega) (Ev.bind hv ?_))
      by_cases hg : nv s (runV s most.toNat) > L
      · rw [if_pos hg, if_pos hg]; exact Ev.now _
      · rw [if_neg hg, if_neg hg]; exact Ev.now _
theorem whole_is (s : ByteArray) (least most : Int) (hs : s.size ≤ 140737488351232) : Ev (fun k => figures_Whole.f k s least most) (wholeV s least most) := by
  unfold figures_Whole.f figures_whole.f
  have h := take_is s least most 9223372036854775807 (by omega) hs
  have hm : Ev (fun k => (figures_take.f k s least most 9223372036854775807).bind fun bt => if bt.2.2.isNone = true then (if bt.2.1 < (s.size : Int) then some (0, some 2) else some (bt.1, none)) else some (0, some (bt.2.2.getD 0))) (wholeV s least most) := by
    refine Ev.bind h ?_
    unfold takeV wholeV
    by_cases h1 : least < 1 ∨ least > most ∨ most > 20
    · simp only [if_pos h1]; exact Ev.now _
    · simp only [if_neg h1]
      by_cases h2 : (runV s most.toNat : Int) < least
      · simp only [if_pos h2]; exact Ev.now _
      · simp only [if_neg h2]
        by_cases h3 : nv s (runV s most.toNat) > 9223372036854775807
        · simp only [if_pos h3]; exact Ev.now _
        · simp only [if_neg h3, Option.isNone_none, if_true]
          refine Ev.ite (fun h => ?_) (fun h => ?_)
          · rw [if_pos (by omega)]; exact Ev.now _
          · rw [if_neg (by omega)]; exact Ev.now _
  refine Ev.bind hm (Ev.cast (Ev.now _) ?_)
  have hI : I64 (wholeV s least most).1 := by
    unfold wholeV I64
    have := nv_nonneg s (runV s most.toNat) (runV_figs s _)
    repeat' split
    all_goals (simp only; omega)
  rw [wrap64_id hI]
def dayV (kind c : Int) : Int × Option Int := if isKind kind then (if isDay (c - zeroV kind) then (c - zeroV kind, none) else (0, some 13)) else (0, some 11)
theorem mday_is (kind c : Int) : mjd_Day.f kind c = some (dayV kind c) := by
  unfold mjd_Day.f dayV
  rw [zero_is]
  simp only [Option.bind_some]
  have := zeroV_bd kind
  by_cases hk : isKind kind
  · simp only [if_pos hk, Option.isNone_none, if_true, first_is, last_is, Option.bind_some]
    rw [wr (n := -4371587 + zeroV kind) (by omega), wr (n := 2932896 + zeroV kind) (by omega)]
    by_cases hd : isDay (c - zeroV kind)
    · rw [if_pos hd]
      unfold isDay at hd
      rw [if_neg (by omega), if_neg (by omega), wr (by omega)]
    · rw [if_neg hd]
      split
      · rfl
      · rw [if_pos]
        unfold isDay at hd; omega
  · simp only [if_neg hk]; rfl
/-- Five figures of a day. -/
def fiveV (n : Int) : ByteArray × Option Int := match countV 1 n with | (c, none) => (if c < 0 ∨ c > 99999 then (strOfNums [], some 1) else (strOfNums (rawV c.toNat 5), none)) | (_, some e) => (strOfNums [], some e)
theorem five_is (n : Int) : Ev (fun k => mjd_Five.f k n) (fiveV n) := by
  unfold mjd_Five.f fiveV
  refine Ev.bindc (count_is 1 n) ?_
  rcases countV 1 n with ⟨c, e⟩
  cases e with
  | none =>
    simp only [Option.isNone_none, if_true]
    refine Ev.ite (fun h => ?_) (fun h => Ev.ite (fun h2 => ?_) (fun h2 => ?_))
    · rw [if_pos (Or.inl h)]; exact Ev.now _
    · rw [if_pos (Or.inr h2)]; exact Ev.now _
    · rw [if_neg (by omega)]
      refine Ev.bind (put_is c 5 (by unfold I64; omega) (by omega)) ?_
      unfold putV
      rw [if_neg h]
      exact Ev.now _
  | some e =>
    exact Ev.now _
theorem parsefive_is (s : ByteArray) (hs : s.size ≤ 140737488351232) : Ev (fun k => mjd_ParseFive.f k s) (match wholeV s 5 5 with | (c, none) => dayV 1 c | (_, some e) => (0, some e)) := by
  unfold mjd_ParseFive.f
  refine Ev.bind (whole_is s 5 5 hs) ?_
  rcases wholeV s 5 5 with ⟨c, e⟩
  cases e with
  | none => exact Ev.bindc (mday_is 1 c) (Ev.now _)
  | some e => exact Ev.now _
theorem five_back (n : Int) {g : Nat → ByteArray → Option Int → Option Bool} (hg : ∀ k s e, g k s e = if e.isNone = true then ((mjd_ParseFive.f k s).bind fun b => (if b.2.isNone = true then (if b.1 = n then (some ((s.size : Int) == 5)) else (some false)) else (some false))) else some true) :
    Ev (fun k => (mjd_Five.f k n).bind fun b => g k b.1 b.2) true := by
  simp only [hg]
  refine Ev.bind (five_is n) ?_
  unfold fiveV countV
  by_cases hd : isDay n
  · have hk : isKind 1 := by decide
    simp only [if_pos hk, if_pos hd]
    have hz : zeroV 1 = 40587 := rfl
    rw [hz]
    by_cases hc : n + 40587 < 0 ∨ n + 40587 > 99999
    · simp only [if_pos hc]; exact Ev.now _
    · simp only [if_neg hc, Option.isNone_none, if_true]
      obtain ⟨c, hcc⟩ : ∃ c : Nat, (c : Int) = n + 40587 := ⟨(n + 40587).toNat, by omega⟩
      rw [show (n + 40587).toNat = c by omega]
      have hl : (rawV c 5).length = 5 := by
        rw [rawV_len]
        have := digs_len c 5 (by omega)
        omega
      obtain ⟨r1, r2⟩ := raw_read c 5
      have hs : (strOfNums (rawV c 5)).size = 5 := by rw [son_size, hl]
      have hw : wholeV (strOfNums (rawV c 5)) 5 5 = ((c : Int), none) := by
        rw [hl] at r1 r2
        have hr : runV (strOfNums (rawV c 5)) (5 : Int).toNat = 5 := by unfold runV; rw [hs]; exact r1
        unfold wholeV
        rw [hr, r2, hs]
        rw [if_neg (by omega), if_neg (by omega), if_neg (by omega), if_neg (by omega)]
      have hp := parsefive_is (strOfNums (rawV c 5)) (by omega)
      rw [hw] at hp
      have e : dayV 1 c = (n, none) := by
        unfold dayV
        rw [show (c : Int) - zeroV 1 = n by rw [hz]; omega, if_pos hk, if_pos hd]
      refine Ev.bind (Ev.cast hp e) ?_
      simp only [Option.isNone_none, if_true, hs]
      exact Ev.now _
  · have hk : isKind 1 := by decide
    simp only [if_pos hk, if_neg hd]
    exact Ev.now _
end Go.Proofs.Ytlhjgkfhjmjcgaa.MMjdBack
namespace Go.Proofs.Ytlhjgkfhjmjcgaa.Pure
open Go.RowKit Go.Proofs.Ytlhjgkfhjmjcgaa.MMjdBack Go.Proofs.YtlhjgkfhjmjcgaaW.PrintWords Go.Proofs.YtlhjgkfhjmjcgaaW.PrintLast Go.Proofs.Ytlhjgkfhjmjcgaa.Base
set_option linter.unusedVariables false
set_option linter.unusedSimpArgs false
theorem MjdBack : horologelaw07_MjdBack.Pure := by
  intro kind n c hk hn hc
  replace hn := i64_of hn
  replace hc := i64_of hc
  have zb := zeroV_bd kind
  refine Ev.ok (g := fun k => horologelaw07_MjdBack.f k kind n c) ?_
  unfold horologelaw07_MjdBack.f
  refine Ev.bindc (show horologelaw07_alive.f = some true by kernel_rfl) (Ev.pos rfl (Ev.bindc (count_is kind n) ?_))
  have h5 : Ev (fun k => (mjd_Five.f k n).bind fun b => if b.2.isNone = true then ((mjd_ParseFive.f k b.1).bind fun q => (if q.2.isNone = true then (if q.1 = n then (some ((b.1.size : Int) == 5)) else (some false)) else (some false))) else some true) true :=
    five_back n (g := fun k s e => if e.isNone = true then ((mjd_ParseFive.f k s).bind fun b => (if b.2.isNone = true then (if b.1 = n then (some ((s.size : Int) == 5)) else (some false)) else (some false))) else some true) (fun _ _ _ => rfl)
  have hday : Ev (fun k => (mjd_Day.f kind c).bind fun b => (if b.2.isNone = true then ((mjd_Count.f kind b.1).bind fun q => (if q.2.isNone = true then (if q.1 = c then ((mjd_Five.f k n).bind fun b => if b.2.isNone = true then ((mjd_ParseFive.f k b.1).bind fun q => (if q.2.isNone = true then (if q.1 = n then (some ((b.1.size : Int) == 5)) else (some false)) else (some false))) else some true) else (some false)) else (some false))) else ((mjd_Five.f k n).bind fun b => if b.2.isNone = true then ((mjd_ParseFive.f k b.1).bind fun q => (if q.2.isNone = true then (if q.1 = n then (some ((b.1.size : Int) == 5)) else (some false)) else (some false))) else some true))) true := by
    refine Ev.bindc (mday_is kind c) ?_
    unfold dayV
    by_cases hkk : isKind kind
    · by_cases hd : isDay (c - zeroV kind)
      · simp only [if_pos hkk, if_pos hd, Option.isNone_none, if_true]
        refine Ev.bindc (count_is kind _) ?_
        unfold countV
        simp only [if_pos hkk, if_pos hd, Option.isNone_none, if_true]
        exact Ev.pos (by omega) h5
      · simp only [if_pos hkk, if_neg hd, Option.isNone_some, Bool.false_eq_true, if_false]
        exact h5
    · simp only [if_neg hkk, Option.isNone_some, Bool.false_eq_true, if_false]
      exact h5
  unfold countV
  by_cases hkk : isKind kind
  · by_cases hd : isDay n
    · simp only [if_pos hkk, if_pos hd, Option.isNone_none, if_true]
      refine Ev.bindc (mday_is kind _) ?_
      unfold dayV
      rw [show n + zeroV kind - zeroV kind = n by omega]
      simp only [if_pos hkk, if_pos hd, Option.isNone_none, if_true, bne_self_eq_false]
      refine Ev.up ?_
      simp only [horologelaw07_MjdBack.j0, Bool.false_eq_true, if_false]
      have hj : Ev (fun k => horologelaw07_MjdBack.j1 k kind n c) true := by
        refine Ev.up ?_
        simp only [horologelaw07_MjdBack.j1]
        exact hday
      have hdd := hd
      unfold isDay at hdd
      rw [wr (n := n + 1) (by omega), wr (n := n + zeroV kind + 1) (by omega)]
      refine Ev.bindc (count_is kind _) ?_
      unfold countV
      by_cases hd2 : isDay (n + 1)
      · simp only [if_pos hkk, if_pos hd2, Option.isNone_none, if_true]
        exact Ev.pos (by omega) hj
      · simp only [if_pos hkk, if_neg hd2, Option.isNone_some, Bool.false_eq_true, if_false]
        exact hj
    · simp only [if_pos hkk, if_neg hd, Option.isNone_some, Bool.false_eq_true, if_false]
      exact hday
  · simp only [if_neg hkk, Option.isNone_some, Bool.false_eq_true, if_false]
    exact hday
end Go.Proofs.Ytlhjgkfhjmjcgaa.Pure
