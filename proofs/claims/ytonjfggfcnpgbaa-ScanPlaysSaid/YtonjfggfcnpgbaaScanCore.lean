import Derived.Test.YtonjfggfcnpgbaaTScanPlaysBig3
import Derived.Test.YtonjfggfcnpgbaaScanBase
import Derived.Test.YtonjfggfcnpgbaaRegBase
/- A scanner in plain Lean, and the document's one: what each answers. No program's state in sight. -/
namespace Go.Proofs.Ytonjfggfcnpgbaa.MScanPlays
open Go.RowKit Go.Proofs.YtonjfggfcnpgbaaW.PrintWords Go.Proofs.YtonjfggfcnpgbaaW.PrintLast Go.Proofs.YtonjfggfcnpgbaaW.PrintMore Go.Proofs.Ytonjfggfcnpgbaa.Base
set_option linter.unusedVariables false
set_option linter.unusedSimpArgs false

/-- What is left of a text from a place on: nothing behind an error. -/
def leftV (l : List Int) (i : Nat) (e : Option Int) : List Int := if e.isNone = true then l.drop i else []
theorem leftV_none (l : List Int) (i : Nat) : leftV l i none = l.drop i := rfl
theorem leftV_some (l : List Int) (i : Nat) (c : Int) : leftV l i (some c) = [] := rfl
theorem leftV_byt {l : List Int} (h : Byt l) (i : Nat) (e : Option Int) : Byt (leftV l i e) := by
  unfold leftV; split
  · exact h.drop i
  · intro x hx; cases hx
theorem leftV_len (l : List Int) (i : Nat) (e : Option Int) : (leftV l i e).length ≤ l.length := by
  unfold leftV; split
  · simp
  · simp
theorem sclone_is (l : List Int) (hl : l.length ≤ 140737488351232) : strings_Clone.f (strOfNums l) = some (strOfNums l) := by
  unfold strings_Clone.f stringslite_Clone.f
  rw [if_pos (by rw [son_size]; omega)]; rfl
theorem tw_take {p : Int → Bool} (r : List Int) : r.take (r.takeWhile p).length = r.takeWhile p := (List.prefix_iff_eq_take.mp (List.takeWhile_prefix p)).symm
theorem tw_len {p : Int → Bool} (r : List Int) : (r.takeWhile p).length ≤ r.length := (List.takeWhile_prefix p).length_le
/-- Does a byte come? -/
def comesV (r : List Int) (c : Int) : Bool := r.head? == some c
/-- The error at the end. -/
def endV (l : List Int) (i : Nat) (e : Option Int) : Option Int := match e with | some c => some c | none => if i < l.length then some 2 else none
theorem sidx_is (l : List Int) (h : Byt l) (c : Int) (hc : 0 ≤ c ∧ c ≤ 255) : strings_IndexByte.f (strOfNums l) c = some (if (l.takeWhile (fun x => x != c)).length < l.length then ((l.takeWhile (fun x => x != c)).length : Int) else -1) := by
  unfold strings_IndexByte.f stringslite_IndexByte.f idxb
  rw [idx_is l h c hc]; rfl
theorem smem_is (l : List Int) (h : Byt l) (c : Int) (hc : 0 ≤ c ∧ c ≤ 255) : ∃ t, strings_IndexByte.f (strOfNums l) c = some t ∧ (t ≥ 0 ↔ c ∈ l) := by
  refine ⟨_, sidx_is l h c hc, ?_⟩
  have := idx_mem l h c hc
  rwa [idx_is l h c hc] at this
theorem is_is (c : Int) : figures_Is.f c = some (decide (figb c)) := by
  unfold figures_Is.f
  split
  · congr 1; exact decide_eq_decide.mpr ⟨fun q => ⟨by omega, q⟩, fun q => q.2⟩
  · congr 1; exact (decide_eq_false (fun q => by unfold figb at q; omega)).symm
theorem mn_nat (a : Nat) (m : Int) (hm : 0 ≤ m) : mn (a : Int) m = ((min m.toNat a : Nat) : Int) := by unfold mn; split <;> omega
theorem run_l0 (s : ByteArray) (m : Int) (hm : 0 ≤ m) (hs : s.size ≤ 140737488351232) (f : Nat) : ∀ i : Nat, i + f = min m.toNat s.size → Ev (fun k => figures_run.l0 k s m i) ((runG s i f : Nat) : Int) := by
  induction f with
  | zero =>
    intro i hi
    refine Ev.up ?_
    simp only [figures_run.l0, mn_nat _ _ hm, runG]
    exact Ev.neg (by omega) (Ev.now _)
  | succ f ih =>
    intro i hi
    refine Ev.up ?_
    simp only [figures_run.l0, mn_nat _ _ hm, is_is, Option.bind_some]
    refine Ev.pos (by omega) (Ev.pos (by omega) (Ev.pos (by omega) (Ev.ite (fun h => ?_) (fun h => ?_))))
    · rw [wr (n := (i : Int) + 1) (by omega)]
      unfold runG
      rw [if_pos (of_decide_eq_true h)]
      exact ih (i + 1) (by omega)
    · unfold runG
      rw [if_neg (fun q => h (decide_eq_true q))]
      exact Ev.now _
theorem run_is (s : ByteArray) (m : Int) (hm : 0 ≤ m) (hs : s.size ≤ 140737488351232) : Ev (fun k => figures_run.f k s m) ((runV s m.toNat : Nat) : Int) := by
  unfold figures_run.f
  exact run_l0 s m hm hs _ 0 (by omega)
theorem value_l0 (s : ByteArray) (L : Int) (hL : 100 ≤ L ∧ L ≤ 18446744073709551615) (hs : s.size ≤ 140737488351232) (hf : ∀ i : Nat, i < s.size → figb (bt s i)) (m : Nat) : ∀ i : Nat, i + m = s.size → nv s i ≤ L →
    Ev (fun k => figures_value.l0 k s L (nv s i) (s.size : Int) i) (if nv s s.size > L then (0, some 5) else (nv s s.size, none)) := by
  induction m with
  | zero =>
    intro i hi hv
    rw [show s.size = i by omega]
    refine Ev.up ?_
    simp only [figures_value.l0]
    rw [if_neg (by omega)]
    exact Ev.neg (by omega) (Ev.now _)
  | succ m ih =>
    intro i hi hv
    have hd := hf i (by omega)
    unfold figb at hd
    have h0 := nv_nonneg s i (fun j hj => hf j (by omega))
    have w1 : (bt s i - 48) % 256 = bt s i - 48 := by omega
    have w2 : IntKind.u64.wrap (Int.tdiv (IntKind.u64.wrap (L - (bt s i - 48))) 10) = (L - (bt s i - 48)) / 10 := by rw [wrap_u64 (L - _), tdiv_is, if_neg (by omega), wrap_u64]; omega
    refine Ev.up ?_
    simp only [figures_value.l0, w1, w2]
    refine Ev.pos (by omega) (Ev.pos (by omega) (Ev.pos (by omega) (Ev.ite (fun h => ?_) (fun h => ?_))))
    · have hm : nv s (i + 1) ≤ nv s s.size := nv_mono s (fun j hj => hf j hj) (by omega)
      simp only [nv] at hm
      rw [if_pos (by omega)]
      exact Ev.now _
    · have w3 : IntKind.u64.wrap (IntKind.u64.wrap (nv s i * 10) + (bt s i - 48)) = nv s (i + 1) := by simp only [nv]; rw [wrap_u64, wrap_u64]; omega
      rw [w3, wr (n := (i : Int) + 1) (by omega)]
      exact ih (i + 1) (by omega) (by simp only [nv]; omega)
theorem value_is (s : ByteArray) (L : Int) (hL : 100 ≤ L ∧ L ≤ 18446744073709551615) (hs : s.size ≤ 140737488351232) (hf : ∀ i : Nat, i < s.size → figb (bt s i)) :
    Ev (fun k => figures_value.f k s L) (if nv s s.size > L then (0, some 5) else (nv s s.size, none)) := by
  unfold figures_value.f
  have := value_l0 s L hL hs hf s.size 0 (by omega) (by simp only [nv]; omega)
  simpa [nv] using this
theorem runV_figs (s : ByteArray) (m : Nat) : ∀ i : Nat, i < runV s m → figb (bt s i) := fun i hi => runG_figs s _ 0 i (by omega) hi
/-- What the figures that a text begins with come to. -/
def takeV (s : ByteArray) (least most L : Int) : Int × Int × Option Int :=
  if least < 1 ∨ least > most ∨ most > 20 then (0, 0, some 1)
  else if (runV s most.toNat : Int) < least then (0, 0, some 2)
  else if nv s (runV s most.toNat) > L then (0, 0, some 5)
  else (nv s (runV s most.toNat), runV s most.toNat, none)
theorem take_is (s : ByteArray) (least most L : Int) (hL : 100 ≤ L ∧ L ≤ 18446744073709551615) (hs : s.size ≤ 140737488351232) : Ev (fun k => figures_take.f k s least most L) (takeV s least most L) := by
  unfold figures_take.f takeV
  have bad : (least < 1 ∨ least > most ∨ most > 20) → Ev (fun k => figures_take.j0 k s least most L true) (if least < 1 ∨ least > most ∨ most > 20 then (0, 0, some 1) else if (runV s most.toNat : Int) < least then (0, 0, some 2) else if nv s (runV s most.toNat) > L then (0, 0, some 5) else (nv s (runV s most.toNat), ((runV s most.toNat : Nat) : Int), none)) := by
    intro h
    rw [if_pos h]
    refine Ev.up ?_
    simp only [figures_take.j0, if_true]
    exact Ev.now _
  refine Ev.ite (fun h => bad (Or.inl h)) (fun h1 => Ev.ite (fun h => bad (Or.inr (Or.inl h))) (fun h2 => ?_))
  by_cases h3 : most > 20
  · rw [decide_eq_true h3]; exact bad (Or.inr (Or.inr h3))
  · rw [decide_eq_false h3, if_neg (by omega)]
    refine Ev.up ?_
    simp only [figures_take.j0, Bool.false_eq_true, if_false]
    refine Ev.bind (run_is s most (by omega) hs) (Ev.ite (fun h => ?_) (fun h => ?_))
    · rw [if_pos h]; exact Ev.now _
    · rw [if_neg h]
      have rb := runV_bd s most.toNat
      have hx : (s.extract 0 ((runV s most.toNat : Nat) : Int).toNat).size = runV s most.toNat := size_extract s _ rb.2
      have hv := value_is (s.extract 0 ((runV s most.toNat : Nat) : Int).toNat) L hL (by rw [hx]; omega) (by
        rw [hx]
        intro i hi
        rw [Int.toNat_natCast, bt_extract s _ i hi rb.2]
        exact runV_figs s _ i hi)
      rw [hx] at hv
      rw [show nv (s.extract 0 ((runV s most.toNat : Nat) : Int).toNat) (runV s most.toNat) = nv s (runV s most.toNat) from nv_extract s _ rb.2 _ (Nat.le_refl _)] at hv
      refine Ev.pos (by omega) (Ev.pos (by omega) (Ev.bind hv ?_))
      by_cases hg : nv s (runV s most.toNat) > L
      · rw [if_pos hg, if_pos hg]; exact Ev.now _
      · rw [if_neg hg, if_neg hg]; exact Ev.now _
theorem tTake_is (s : ByteArray) (least most : Int) (hs : s.size ≤ 140737488351232) : Ev (fun k => figures_Take.f k s least most) (takeV s least most 9223372036854775807) := by
  unfold figures_Take.f
  refine Ev.bind (take_is s least most 9223372036854775807 (by omega) hs) (Ev.cast (Ev.now _) ?_)
  have hI : I64 (takeV s least most 9223372036854775807).1 := by
    unfold takeV I64
    have := nv_nonneg s (runV s most.toNat) (runV_figs s _)
    repeat' split
    all_goals (simp only; omega)
  rw [wrap64_id hI]
/-- Figures taken: the number, the place behind them, the error. -/
def sfigV (l : List Int) (i : Nat) (e : Option Int) (least most : Int) : Int × Int × Option Int :=
  match e with
  | some c => (0, i, some c)
  | none => match takeV (strOfNums (l.drop i)) least most 9223372036854775807 with
    | (n, m, none) => (n, i + m, none)
    | (_, _, some q) => (0, i, some q)
theorem takeV_le (s : ByteArray) (least most L : Int) : 0 ≤ (takeV s least most L).2.1 ∧ (takeV s least most L).2.1 ≤ s.size := by
  have := runV_bd s most.toNat
  unfold takeV
  repeat' split
  all_goals (simp only; omega)
theorem ris_l0 (c : Int) (m : Nat) : ∀ x : Int, 48 ≤ x → x + m = 58 → (48 ≤ c → x ≤ c) → Ev (fun k => r2_Is.l0 k c x) (decide (figb c)) := by
  induction m with
  | zero =>
    intro x h1 h2 h3
    refine Ev.up ?_
    simp only [r2_Is.l0]
    rw [decide_eq_false (fun q => by unfold figb at q; omega)]
    exact Ev.neg (by omega) (Ev.now _)
  | succ m ih =>
    intro x h1 h2 h3
    refine Ev.up ?_
    simp only [r2_Is.l0]
    refine Ev.pos (by omega) (Ev.ite (fun h => ?_) (fun h => ?_))
    · rw [decide_eq_true (show figb c from ⟨by omega, by omega⟩)]; exact Ev.now _
    · rw [show (x + 1) % 256 = x + 1 by omega]
      exact ih (x + 1) (by omega) (by omega) (by omega)
theorem ris_is (c : Int) : Ev (fun k => r2_Is.f k c) (decide (figb c)) := ris_l0 c 10 48 (by decide) (by decide) (by omega)
theorem many_l0 (s : ByteArray) (hs : s.size ≤ 140737488351232) (f : Nat) : ∀ i : Nat, i + f = s.size → Ev (fun k => r2_Many.l0 k s i) ((runG s i f : Nat) : Int) := by
  induction f with
  | zero =>
    intro i hi
    refine Ev.up ?_
    simp only [r2_Many.l0, runG]
    rw [← hi]
    exact Ev.neg (by omega) (Ev.cast (Ev.now _) (by omega))
  | succ f ih =>
    intro i hi
    refine Ev.up ?_
    simp only [r2_Many.l0]
    refine Ev.pos (by omega) (Ev.pos (by omega) (Ev.bind (ris_is _) (Ev.ite (fun h => ?_) (fun h => ?_))))
    · rw [wr (n := (i : Int) + 1) (by omega)]
      unfold runG
      rw [if_pos (of_decide_eq_true h)]
      exact ih (i + 1) (by omega)
    · unfold runG
      rw [if_neg (fun q => h (decide_eq_true q))]
      exact Ev.now _
theorem many_is (s : ByteArray) (hs : s.size ≤ 140737488351232) : Ev (fun k => r2_Many.f k s) ((runG s 0 s.size : Nat) : Int) := many_l0 s hs s.size 0 (by omega)
theorem rbig_l0 (s : ByteArray) (hs : s.size ≤ 100) (hf : ∀ i : Nat, i < s.size → figb (bt s i)) (m : Nat) : ∀ (i : Nat) (b : Bool × List Int), i + m = s.size → Is b (nv s i) (4 + 6 * i) →
    ∃ r, Ev (fun k => r2_Big.l0 k s i b.1 b.2) r ∧ Is r (nv s s.size) 1000 := by
  induction m with
  | zero =>
    intro i b hi hb
    refine ⟨b, Ev.up ?_, ?_⟩
    · simp only [r2_Big.l0]
      exact Ev.neg (by omega) (Ev.now _)
    · rw [← hi]; exact hb.mono (by omega)
  | succ m ih =>
    intro i b hi hb
    have hd := hf i (by omega)
    unfold figb at hd
    obtain ⟨t, t1, t2⟩ := Of_is 10 (by unfold I64; omega)
    obtain ⟨p, p1, p2⟩ := Times_is hb t2 (by omega) (by decide)
    obtain ⟨d, d1, d2⟩ := Of_is (bt s i - 48) (by unfold I64; omega)
    obtain ⟨q, q1, q2⟩ := Plus_is p2 d2 (by omega) (by decide)
    obtain ⟨r, r1, r2⟩ := ih (i + 1) q (by omega) (by simp only [nv]; exact q2.mono (by omega))
    refine ⟨r, Ev.up ?_, r2⟩
    simp only [r2_Big.l0]
    rw [show (bt s i - 48) % 256 = bt s i - 48 by omega, wr (n := (i : Int) + 1) (by omega)]
    exact Ev.pos (by omega) (Ev.bind t1 (Ev.bind p1 (Ev.pos (by omega) (Ev.bind d1 (Ev.bind q1 r1)))))
theorem rbig_is (s : ByteArray) (hs : s.size ≤ 100) (hf : ∀ i : Nat, i < s.size → figb (bt s i)) : ∃ r, Ev (fun k => r2_Big.f k s) r ∧ Is r (nv s s.size) 1000 := by
  obtain ⟨z, z1, z2⟩ := Of_is 0 (by unfold I64; omega)
  obtain ⟨r, r1, r2⟩ := rbig_l0 s hs hf s.size 0 z (by omega) (by simpa [nv] using z2)
  exact ⟨r, Ev.bind z1 r1, r2⟩
/-- An answer with an error's number in the place of an error. -/
def en (e : Option Int) : Int := match e with | none => 0 | some c => c
def rtakeV (s : ByteArray) (least most : Int) : Int × Int × Int :=
  if least < 1 ∨ least > most ∨ most > 20 then (0, 0, 1)
  else if (runV s most.toNat : Int) < least then (0, 0, 2)
  else if nv s (runV s most.toNat) > 9223372036854775807 then (0, 0, 5)
  else (nv s (runV s most.toNat), runV s most.toNat, 0)
theorem rtake_is (s : ByteArray) (least most : Int) (hs : s.size ≤ 140737488351232) : Ev (fun k => r2_Take.f k s least most) (rtakeV s least most) := by
  unfold r2_Take.f rtakeV
  have bad : (least < 1 ∨ least > most ∨ most > 20) → Ev (fun k => r2_Take.j0 k s least most true) (if least < 1 ∨ least > most ∨ most > 20 then (0, 0, 1) else if (runV s most.toNat : Int) < least then (0, 0, 2) else if nv s (runV s most.toNat) > 9223372036854775807 then (0, 0, 5) else (nv s (runV s most.toNat), ((runV s most.toNat : Nat) : Int), 0)) := by
    intro h
    rw [if_pos h]
    refine Ev.up ?_
    simp only [r2_Take.j0, if_true]
    exact Ev.now _
  refine Ev.ite (fun h => bad (Or.inl h)) (fun h1 => Ev.ite (fun h => bad (Or.inr (Or.inl h))) (fun h2 => ?_))
  by_cases h3 : most > 20
  · rw [decide_eq_true h3]; exact bad (Or.inr (Or.inr h3))
  · rw [decide_eq_false h3, if_neg (by omega)]
    have rb := runV_bd s most.toNat
    have hmain : Ev (fun k => r2_Take.j1 k s least ((runV s most.toNat : Nat) : Int)) (if (runV s most.toNat : Int) < least then (0, 0, 2) else if nv s (runV s most.toNat) > 9223372036854775807 then (0, 0, 5) else (nv s (runV s most.toNat), ((runV s most.toNat : Nat) : Int), 0)) := by
      refine Ev.up ?_
      simp only [r2_Take.j1]
      refine Ev.ite (fun h => ?_) (fun h => ?_)
      · rw [if_pos h]; exact Ev.now _
      · rw [if_neg h]
        have hx : (s.extract 0 ((runV s most.toNat : Nat) : Int).toNat).size = runV s most.toNat := size_extract s _ rb.2
        obtain ⟨r, r1, r2⟩ := rbig_is (s.extract 0 ((runV s most.toNat : Nat) : Int).toNat) (by rw [hx]; omega) (by
          rw [hx]
          intro i hi
          rw [Int.toNat_natCast, bt_extract s _ i hi rb.2]
          exact runG_figs s _ 0 i (by omega) hi)
        rw [hx] at r2
        rw [show nv (s.extract 0 ((runV s most.toNat : Nat) : Int).toNat) (runV s most.toNat) = nv s (runV s most.toNat) from nv_extract s _ rb.2 _ (Nat.le_refl _)] at r2
        have hsm := Small_is r2 (by decide)
        have h0 := nv_nonneg s (runV s most.toNat) (fun i hi => runG_figs s _ 0 i (by omega) hi)
        refine Ev.pos (by omega) (Ev.pos (by omega) (Ev.bind r1 (Ev.bind hsm ?_)))
        by_cases hg : nv s (runV s most.toNat) > 9223372036854775807
        · rw [smallV_out (by unfold I64; omega), if_pos hg]; exact Ev.neg (by decide) (Ev.now _)
        · rw [smallV_in (by unfold I64; omega), if_neg hg]; exact Ev.pos rfl (Ev.now _)
    have hr := runV_min s most.toNat
    refine Ev.up ?_
    simp only [r2_Take.j0, Bool.false_eq_true, if_false]
    refine Ev.bind (many_is s hs) (Ev.ite (fun h => ?_) (fun h => ?_))
    · have e : ((runV s most.toNat : Nat) : Int) = most := by omega
      exact Ev.congr (fun k => by rw [e]) hmain
    · rw [show ((runG s 0 s.size : Nat) : Int) = ((runV s most.toNat : Nat) : Int) by omega]
      exact hmain
/-! letters -/
def sm (x : Int) : Int := if 65 ≤ x ∧ x ≤ 90 then x + 32 else x
theorem small_is (x : Int) (h : 0 ≤ x ∧ x ≤ 255) : scan_small.f x = some (sm x) := by
  unfold scan_small.f sm
  by_cases h1 : 65 ≤ x
  · rw [if_pos (show x ≥ 65 from h1)]
    by_cases h2 : x ≤ 90
    · rw [if_pos h2, if_pos ⟨h1, h2⟩]; congr 1; omega
    · rw [if_neg h2, if_neg (by omega)]
  · rw [if_neg (by omega), if_neg (by omega)]
theorem ralike_is (x y : Int) (h : 0 ≤ x ∧ x ≤ 255) (h' : 0 ≤ y ∧ y ≤ 255) : r4_alike.f x y = some (decide (sm x = sm y)) := by
  have e : r4_alike.f x y = some (decide (x = y ∨ (65 ≤ x ∧ x ≤ 90 ∧ y = x + 32) ∨ (65 ≤ y ∧ y ≤ 90 ∧ x = y + 32))) := by
    unfold r4_alike.f
    repeat' split
    all_goals (congr 1; first | (symm; rw [decide_eq_true_iff]; omega) | (symm; rw [decide_eq_false_iff_not]; omega) | (rw [Bool.eq_iff_iff]; simp; omega))
  rw [e]
  congr 1
  rw [decide_eq_decide]
  unfold sm
  split <;> split <;> omega
def alB (a b : List Int) : Bool := decide (a.map sm = b.map sm)
/-- Does a word come, whatever its letters' size? -/
def foldV (l : List Int) (i : Nat) (e : Option Int) (w : List Int) : Bool := e.isNone && (decide (w.length ≤ (leftV l i e).length) && alB ((leftV l i e).take w.length) w)
theorem alike_l0 (a b : List Int) (ha : Byt a) (hb : Byt b) (hl : a.length = b.length) (hs : a.length ≤ 140737488351232) : ∀ (m j : Nat), j + m = a.length → (∀ (q : Nat) (h1 : q < a.length) (h2 : q < b.length), q < j → sm a[q] = sm b[q]) →
    Ev (fun k => scan_alike.l0 k (strOfNums a) (strOfNums b) (a.length : Int) (j : Int)) (alB a b)
  | 0, j, h, hq => by
    refine Ev.up ?_
    simp only [scan_alike.l0]
    refine Ev.neg (by omega) (Ev.cast (Ev.now _) ?_)
    symm
    unfold alB
    rw [decide_eq_true_iff]
    refine List.ext_getElem (by simp [hl]) (fun q h1 h2 => ?_)
    simp only [List.length_map] at h1 h2
    simp only [List.getElem_map]
    exact hq q h1 h2 (by omega)
  | m + 1, j, h, hq => by
    have b1 := bt_at_son ha (i := j) (by omega)
    have b2 := bt_at_son hb (i := j) (by omega)
    refine Ev.up ?_
    simp only [scan_alike.l0, son_size, b1, b2]
    refine Ev.pos (by omega) (Ev.pos (by omega) (Ev.pos (by omega) (Ev.bindc (small_is _ (ha _ (List.getElem_mem _))) (Ev.pos (by omega) (Ev.bindc (small_is _ (hb _ (List.getElem_mem _))) ?_)))))
    refine Ev.ite (fun he => ?_) (fun he => ?_)
    · rw [show wrap64 ((j : Int) + 1) = ((j + 1 : Nat) : Int) from wr (by omega)]
      refine alike_l0 a b ha hb hl hs m (j + 1) (by omega) (fun q h1 h2 hqj => ?_)
      by_cases e : q = j
      · subst e; exact he
      · exact hq q h1 h2 (by omega)
    · refine Ev.cast (Ev.now _) ?_
      symm
      unfold alB
      rw [decide_eq_false_iff_not]
      intro heq
      have := congrArg (fun l => l[j]?) heq
      simp only [List.getElem?_map, List.getElem?_eq_getElem (show j < a.length by omega), List.getElem?_eq_getElem (show j < b.length by omega), Option.map_some, Option.some.injEq] at this
      exact he this
theorem alike_is (a b : List Int) (ha : Byt a) (hb : Byt b) (hl : a.length = b.length) (hs : a.length ≤ 140737488351232) : Ev (fun k => scan_alike.f k (strOfNums a) (strOfNums b)) (alB a b) := by
  unfold scan_alike.f
  rw [son_size]
  exact alike_l0 a b ha hb hl hs a.length 0 (by omega) (fun q _ _ h => by omega)
/-! the document's scanner -/
def EOK (e : Option Int) : Prop := e ≠ some 0
theorem en_zero {e : Option Int} (h : EOK e) : en e = 0 ↔ e = none := by
  unfold EOK at h
  cases e with
  | none => exact ⟨fun _ => rfl, fun _ => rfl⟩
  | some c => exact ⟨fun q => absurd (show some c = some 0 by rw [show c = 0 from q]) h, fun q => by cases q⟩
theorem rRest_is (l : List Int) (i : Nat) (e : Option Int) (he : EOK e) (hi : i ≤ l.length) : r4_Rest.f (strOfNums l) i (en e) = some (strOfNums (leftV l i e)) := by
  unfold r4_Rest.f
  by_cases h : e = none
  · subst h
    rw [if_pos ((en_zero he).2 rfl), if_pos (by omega), if_pos (by rw [son_size]; omega), Int.toNat_natCast, son_cut]
    rfl
  · rw [if_neg (fun q => h ((en_zero he).1 q))]
    cases e with
    | none => exact absurd rfl h
    | some c => rfl
theorem rEnd_is (l : List Int) (i : Nat) (e : Option Int) (he : EOK e) (hi : i ≤ l.length) : r4_End.f (strOfNums l) i (en e) = some (en (endV l i e)) := by
  unfold r4_End.f
  cases e with
  | none =>
    rw [if_pos ((en_zero he).2 rfl), son_size]
    unfold endV
    by_cases h : i < l.length
    · rw [if_pos (by omega)]; simp only [if_pos h]; rfl
    · rw [if_neg (by omega)]; simp only [if_neg h]
  | some c => rw [if_neg (fun q => by have := (en_zero he).1 q; cases this)]; rfl
theorem rTake_is (l : List Int) (hb : Byt l) (i : Nat) (e : Option Int) (c : Int) (he : EOK e) (hi : i ≤ l.length) (hl : l.length ≤ 140737488351232) :
    r4_Take.f (strOfNums l) i (en e) c = some (comesV (leftV l i e) c, strOfNums l, (if comesV (leftV l i e) c = true then ((i + 1 : Nat) : Int) else (i : Int)), en e) := by
  unfold r4_Take.f
  rw [rRest_is l i e he hi]
  simp only [Option.bind_some, son_size]
  have hbr := leftV_byt hb i e
  generalize leftV l i e = r at *
  cases r with
  | nil => rfl
  | cons x r =>
    have hx : bt (strOfNums (x :: r)) 0 = x := bt_at_son hbr (i := 0) (by simp)
    rw [if_neg (by simp; omega), if_pos (by simp), hx]
    unfold comesV
    by_cases h : x = c
    · subst h
      rw [if_pos rfl, show wrap64 ((i : Int) + 1) = ((i + 1 : Nat) : Int) from wr (by omega)]
      simp
    · rw [if_neg h]
      have : ((x :: r).head? == some c) = false := by simpa using h
      rw [this]; rfl
theorem rFold_l0 (l w r : List Int) (hr : Byt r) (hw : Byt w) (i : Nat) (b : Int) (hi : i ≤ 1000000) (hrl : r.length ≤ 1000000) (hwl : w.length ≤ 1000000) : ∀ (m j : Nat), j + m = w.length → j ≤ r.length → (∀ (q : Nat) (h1 : q < r.length) (h2 : q < w.length), q < j → sm r[q] = sm w[q]) →
    Ev (fun k => r4_Fold.l0 k (strOfNums w) (strOfNums r) (j : Int) (strOfNums l) i b) (decide (w.length ≤ r.length) && alB (r.take w.length) w, strOfNums l, (if (decide (w.length ≤ r.length) && alB (r.take w.length) w) = true then ((i + w.length : Nat) : Int) else (i : Int)), b)
  | 0, j, h, hjr, hq => by
    have hle : w.length ≤ r.length := by omega
    have ht : alB (r.take w.length) w = true := by
      unfold alB
      rw [decide_eq_true_iff]
      refine List.ext_getElem (by simp; omega) (fun q h1 h2 => ?_)
      simp only [List.length_map, List.length_take] at h1 h2
      simp only [List.getElem_map, List.getElem_take]
      exact hq q (by omega) (by omega) (by omega)
    rw [ht, decide_eq_true hle]
    refine Ev.up ?_
    simp only [r4_Fold.l0, son_size]
    refine Ev.neg (by omega) (Ev.cast (Ev.now _) ?_)
    rw [show wrap64 ((i : Int) + (w.length : Int)) = ((i + w.length : Nat) : Int) from wr (by omega)]
    rfl
  | m + 1, j, h, hjr, hq => by
    refine Ev.up ?_
    simp only [r4_Fold.l0, son_size]
    refine Ev.pos (by omega) ?_
    by_cases hj : j < r.length
    · have b1 := bt_at_son hr (i := j) hj
      have b2 := bt_at_son hw (i := j) (by omega)
      refine Ev.neg (by omega) (Ev.pos (by omega) (Ev.pos (by omega) ?_))
      rw [b1, b2]
      refine Ev.bindc (ralike_is _ _ (hr _ (List.getElem_mem _)) (hw _ (List.getElem_mem _))) ?_
      by_cases he : sm r[j] = sm w[j]
      · rw [decide_eq_true he]
        refine Ev.pos rfl ?_
        rw [show wrap64 ((j : Int) + 1) = ((j + 1 : Nat) : Int) from wr (by omega)]
        refine rFold_l0 l w r hr hw i b hi hrl hwl m (j + 1) (by omega) (by omega) (fun q h1 h2 hqj => ?_)
        by_cases e : q = j
        · subst e; exact he
        · exact hq q h1 h2 (by omega)
      · rw [decide_eq_false he]
        refine Ev.neg (by decide) (Ev.cast (Ev.now _) ?_)
        have hf : (decide (w.length ≤ r.length) && alB (r.take w.length) w) = false := by
          rw [Bool.and_eq_false_iff]
          by_cases hle : w.length ≤ r.length
          · right
            unfold alB
            rw [decide_eq_false_iff_not]
            intro heq
            have := congrArg (fun l => l[j]?) heq
            simp only [List.getElem?_map, List.getElem?_take_of_lt (show j < w.length by omega), List.getElem?_eq_getElem hj, List.getElem?_eq_getElem (show j < w.length by omega), Option.map_some, Option.some.injEq] at this
            exact he this
          · left; exact decide_eq_false hle
        rw [hf]; rfl
    · refine Ev.pos (by omega) (Ev.cast (Ev.now _) ?_)
      rw [decide_eq_false (show ¬ w.length ≤ r.length by omega)]; rfl
theorem rFold_is (l : List Int) (hb : Byt l) (i : Nat) (e : Option Int) (w : List Int) (hw : Byt w) (he : EOK e) (hi : i ≤ l.length) (hl : l.length ≤ 1000000) (hwl : w.length ≤ 1000000) :
    Ev (fun k => r4_Fold.f k (strOfNums l) i (en e) (strOfNums w)) (foldV l i e w, strOfNums l, (if foldV l i e w = true then ((i + w.length : Nat) : Int) else (i : Int)), en e) := by
  unfold r4_Fold.f foldV
  cases e with
  | none =>
    refine Ev.pos ((en_zero he).2 rfl) (Ev.bindc (rRest_is l i none he hi) ?_)
    have := rFold_l0 l w (leftV l i none) (leftV_byt hb i none) hw i (en none) (by omega) (by have := leftV_len l i none; omega) hwl w.length 0 (by omega) (by omega) (fun q _ _ h => by omega)
    simpa using this
  | some c =>
    refine Ev.neg (fun q => by have := (en_zero he).1 q; cases this) (Ev.now _)
theorem rFail_is (l : List Int) (i : Nat) (e : Option Int) (c : Int) (he : EOK e) : r4_Fail.f (strOfNums l) i (en e) c = some (strOfNums l, (i : Int), if e.isNone = true then c else en e) := by
  unfold r4_Fail.f
  cases e with
  | none => rw [if_pos ((en_zero he).2 rfl)]; rfl
  | some d => rw [if_neg (fun q => by have := (en_zero he).1 q; cases this)]; rfl
theorem rFigures_is (l : List Int) (i : Nat) (e : Option Int) (least most : Int) (he : EOK e) (hi : i ≤ l.length) (hl : l.length ≤ 1000000) :
    Ev (fun k => r4_Figures.f k (strOfNums l) i (en e) least most) ((sfigV l i e least most).1, strOfNums l, (sfigV l i e least most).2.1, en (sfigV l i e least most).2.2) := by
  unfold r4_Figures.f
  cases e with
  | some c => exact Ev.neg (fun q => by have := (en_zero he).1 q; cases this) (Ev.now _)
  | none =>
    refine Ev.pos ((en_zero he).2 rfl) (Ev.bindc (rRest_is l i none he hi) ?_)
    simp only [leftV_none]
    refine Ev.bind (rtake_is _ least most zq87) (Ev.cast (Ev.now _) ?_)
    have hrun := runV_bd (strOfNums (l.drop i)) most.toNat
    rw [son_size, List.length_drop] at hrun
    have hw : ∀ x : Int, 0 ≤ x → x ≤ 1000000 → wrap64 ((i : Int) + x) = (i : Int) + x := fun x h1 h2 => wr (by omega)
    unfold sfigV rtakeV takeV
    by_cases h1 : least < 1 ∨ least > most ∨ most > 20
    · simp only [if_pos h1]
      rw [hw 0 (by omega) (by omega)]; simp [en]
    · simp only [if_neg h1]
      by_cases h2 : (runV (strOfNums (l.drop i)) most.toNat : Int) < least
      · simp only [if_pos h2]
        rw [hw 0 (by omega) (by omega)]; simp [en]
      · simp only [if_neg h2]
        by_cases h3 : nv (strOfNums (l.drop i)) (runV (strOfNums (l.drop i)) most.toNat) > 9223372036854775807
        · simp only [if_pos h3]
          rw [hw 0 (by omega) (by omega)]; simp [en]
        · simp only [if_neg h3]
          rw [hw _ (by omega) (by omega)]; rfl
/-- So many bytes are skipped: the place, the error. -/
def skipV (l : List Int) (i : Nat) (e : Option Int) (m : Int) : Nat × Option Int :=
  if e.isNone = true then (if m < 0 then (i, some 1) else if m > ((leftV l i e).length : Int) then (i, some 4) else (i + m.toNat, e)) else (i, e)
theorem rSkip_is (l : List Int) (i : Nat) (e : Option Int) (m : Int) (he : EOK e) (hi : i ≤ l.length) (hl : l.length ≤ 1000000) :
    r4_Skip.f (strOfNums l) i (en e) m = some (strOfNums l, ((skipV l i e m).1 : Int), en (skipV l i e m).2) := by
  have hle := leftV_len l i e
  unfold r4_Skip.f skipV
  cases e with
  | some d => rw [if_neg (fun q => by have := (en_zero he).1 q; cases this)]; rfl
  | none =>
    rw [if_pos ((en_zero he).2 rfl), if_pos (show (none : Option Int).isNone = true from rfl)]
    by_cases h1 : m < 0
    · rw [if_pos h1, if_pos h1, rFail_is l i none 1 he]; rfl
    · rw [if_neg h1, if_neg h1, rRest_is l i none he hi]
      simp only [Option.bind_some, son_size]
      by_cases h2 : m > ((leftV l i none).length : Int)
      · rw [if_pos h2, if_pos h2, rFail_is l i none 4 he]; rfl
      · rw [if_neg h2, if_neg h2, show wrap64 ((i : Int) + m) = ((i + m.toNat : Nat) : Int) from (wr (by omega)).trans (by omega)]
/-- The first of some words that comes. -/
def wordV (l : List Int) (i : Nat) (e : Option Int) : List ByteArray → Int → Int × Nat × Option Int
  | [], _ => (-1, i, if e.isNone = true then some 2 else e)
  | w :: ws, j => if foldV l i e (bytesOf w) = true then (j, i + (bytesOf w).length, e) else wordV l i e ws (j + 1)
theorem rWord_l0 (l : List Int) (hb : Byt l) (i : Nat) (e : Option Int) (he : EOK e) (hi : i ≤ l.length) (hl : l.length ≤ 1000000) (ws : List ByteArray) (hws : ws.length ≤ 1000) (hsz : ∀ w ∈ ws, w.size ≤ 1000) : ∀ (m j : Nat), j + m = ws.length →
    Ev (fun k => r4_Word.l0 k ws (j : Int) (strOfNums l) i (en e)) ((wordV l i e (ws.drop j) j).1, strOfNums l, ((wordV l i e (ws.drop j) j).2.1 : Int), en (wordV l i e (ws.drop j) j).2.2)
  | 0, j, h => by
    rw [List.drop_of_length_le (by omega)]
    refine Ev.up ?_
    simp only [r4_Word.l0]
    refine Ev.neg (by omega) (Ev.bindc (rFail_is l i e 2 he) (Ev.cast (Ev.now _) ?_))
    unfold wordV
    cases e <;> rfl
  | m + 1, j, h => by
    have hj : j < ws.length := by omega
    rw [List.drop_eq_getElem_cons hj]
    have hrd : rdOf ByteArray.empty ws (j : Int) = ws[j] := by unfold rdOf; simp [hj]
    have hf := rFold_is l hb i e (bytesOf ws[j]) (byt_of _) he hi hl (by have := hsz _ (List.getElem_mem hj); have h2 := son_size (bytesOf ws[j]); rw [son_of] at h2; omega)
    rw [son_of] at hf
    refine Ev.up ?_
    simp only [r4_Word.l0]
    refine Ev.pos (by omega) (Ev.pos (by omega) ?_)
    rw [hrd]
    refine Ev.bind hf ?_
    unfold wordV
    by_cases hc : foldV l i e (bytesOf ws[j]) = true
    · rw [if_pos hc]
      refine Ev.pos hc (Ev.cast (Ev.now _) ?_)
      rw [if_pos hc]
    · simp only [if_neg hc]
      rw [show wrap64 ((j : Int) + 1) = ((j + 1 : Nat) : Int) from wr (by omega)]
      exact rWord_l0 l hb i e he hi hl ws hws hsz m (j + 1) (by omega)
theorem rWord_is (l : List Int) (hb : Byt l) (i : Nat) (e : Option Int) (he : EOK e) (hi : i ≤ l.length) (hl : l.length ≤ 1000000) (ws : List ByteArray) (hws : ws.length ≤ 1000) (hsz : ∀ w ∈ ws, w.size ≤ 1000) :
    Ev (fun k => r4_Word.f k (strOfNums l) i (en e) ws) ((wordV l i e ws 0).1, strOfNums l, ((wordV l i e ws 0).2.1 : Int), en (wordV l i e ws 0).2.2) := rWord_l0 l hb i e he hi hl ws hws hsz ws.length 0 (by omega)
theorem num_is (e : Option Int) (he : EOK e) : horologenum_Num.f e = some (en e) := by
  unfold horologenum_Num.f
  cases e with
  | none => rfl
  | some c =>
    have hc : c ≠ 0 := fun q => he (by rw [q])
    rw [if_neg (by simp), if_neg (by simpa using hc)]
    rfl
end Go.Proofs.Ytonjfggfcnpgbaa.MScanPlays

/- What an act does to a scanner, in plain Lean. -/
namespace Go.Proofs.Ytonjfggfcnpgbaa.MScanPlays
open Go.RowKit Go.Proofs.YtonjfggfcnpgbaaW.PrintWords Go.Proofs.YtonjfggfcnpgbaaW.PrintLast Go.Proofs.YtonjfggfcnpgbaaW.PrintMore Go.Proofs.Ytonjfggfcnpgbaa.Base
set_option linter.unusedVariables false
set_option linter.unusedSimpArgs false

def stepV (kk B : Int) (wd : List Int) (ws : List ByteArray) (least most : Int) (l : List Int) (i : Nat) (e : Option Int) : Nat × Option Int :=
  if kk = 0 then (if comesV (leftV l i e) B = true then i + 1 else i, e)
  else if kk = 1 then (if foldV l i e wd = true then i + wd.length else i, e)
  else if kk = 2 then (i + ((leftV l i e).takeWhile (fun x => decide (x ∈ wd))).length, e)
  else if kk = 3 then (i + ((leftV l i e).takeWhile (fun x => x != B)).length, e)
  else if kk = 4 then ((sfigV l i e least most).2.1.toNat, (sfigV l i e least most).2.2)
  else if kk = 5 then (if foldV l i e wd = true then i + wd.length else i, if foldV l i e wd = true then e else if e.isNone = true then some 2 else e)
  else if kk = 6 then (wordV l i e ws 0).2
  else if kk = 7 then skipV l i e most
  else (i, if e.isNone = true then some 11 else e)
section
variable {B : Int} {wd : List Int} {ws : List ByteArray} {least most : Int} {l : List Int} {i : Nat} {e : Option Int}
theorem step_0 : stepV 0 B wd ws least most l i e = (if comesV (leftV l i e) B = true then i + 1 else i, e) := rfl
theorem step_1 : stepV 1 B wd ws least most l i e = (if foldV l i e wd = true then i + wd.length else i, e) := rfl
theorem step_2 : stepV 2 B wd ws least most l i e = (i + ((leftV l i e).takeWhile (fun x => decide (x ∈ wd))).length, e) := rfl
theorem step_3 : stepV 3 B wd ws least most l i e = (i + ((leftV l i e).takeWhile (fun x => x != B)).length, e) := rfl
theorem step_4 : stepV 4 B wd ws least most l i e = ((sfigV l i e least most).2.1.toNat, (sfigV l i e least most).2.2) := rfl
theorem step_5 : stepV 5 B wd ws least most l i e = (if foldV l i e wd = true then i + wd.length else i, if foldV l i e wd = true then e else if e.isNone = true then some 2 else e) := rfl
theorem step_6 : stepV 6 B wd ws least most l i e = (wordV l i e ws 0).2 := rfl
theorem step_7 : stepV 7 B wd ws least most l i e = skipV l i e most := rfl
theorem step_8 {kk : Int} (h : kk ≠ 0 ∧ kk ≠ 1 ∧ kk ≠ 2 ∧ kk ≠ 3 ∧ kk ≠ 4 ∧ kk ≠ 5 ∧ kk ≠ 6 ∧ kk ≠ 7) : stepV kk B wd ws least most l i e = (i, if e.isNone = true then some 11 else e) := by
  obtain ⟨h0, h1, h2, h3, h4, h5, h6, h7⟩ := h
  unfold stepV
  rw [if_neg h0, if_neg h1, if_neg h2, if_neg h3, if_neg h4, if_neg h5, if_neg h6, if_neg h7]
theorem cast_if {p : Prop} [Decidable p] (a b : Nat) : ((if p then a else b : Nat) : Int) = if p then (a : Int) else (b : Int) := by split <;> rfl
theorem left_le (hi : i ≤ l.length) : i + (leftV l i e).length ≤ l.length := by
  unfold leftV
  split
  · simp; omega
  · simpa using hi
theorem left_bad (he : e ≠ none) : leftV l i e = [] := by
  cases e with
  | none => exact absurd rfl he
  | some c => rfl
theorem comes_len (h : comesV (leftV l i e) B = true) : 1 ≤ (leftV l i e).length := by
  unfold comesV at h
  cases hl : leftV l i e with
  | nil => rw [hl] at h; cases h
  | cons x r => simp
theorem fold_len (h : foldV l i e wd = true) : wd.length ≤ (leftV l i e).length ∧ e = none := by
  unfold foldV at h
  simp only [Bool.and_eq_true, decide_eq_true_eq, Option.isNone_iff_eq_none] at h
  exact ⟨h.2.1, h.1⟩
theorem sfig_bd (hi : i ≤ l.length) : (i : Int) ≤ (sfigV l i e least most).2.1 ∧ (sfigV l i e least most).2.1 ≤ l.length ∧ (e ≠ none → (sfigV l i e least most).2.1 = i) := by
  unfold sfigV
  cases e with
  | some c => exact ⟨Int.le_refl _, by simpa using hi, fun _ => rfl⟩
  | none =>
    have h := takeV_le (strOfNums (l.drop i)) least most 9223372036854775807
    rw [son_size, List.length_drop] at h
    rcases ht : takeV (strOfNums (l.drop i)) least most 9223372036854775807 with ⟨n, m, q⟩
    rw [ht] at h
    simp only at h ⊢
    cases q with
    | none => simp only; refine ⟨by omega, by omega, fun h => absurd rfl h⟩
    | some q => simp only; refine ⟨by omega, by omega, fun h => absurd rfl h⟩
theorem word_bd (hi : i ≤ l.length) : ∀ (ws : List ByteArray) (j : Int), i ≤ (wordV l i e ws j).2.1 ∧ (wordV l i e ws j).2.1 ≤ l.length ∧ (e ≠ none → (wordV l i e ws j).2.1 = i)
  | [], j => ⟨Nat.le_refl _, hi, fun _ => rfl⟩
  | w :: ws, j => by
    unfold wordV
    by_cases h : foldV l i e (bytesOf w) = true
    · rw [if_pos h]
      have h1 := fold_len h
      have h2 := left_le (e := e) hi
      exact ⟨by simp, by simp; omega, fun q => absurd h1.2 q⟩
    · rw [if_neg h]; exact word_bd hi ws (j + 1)
theorem skip_bd (hi : i ≤ l.length) : i ≤ (skipV l i e most).1 ∧ (skipV l i e most).1 ≤ l.length ∧ (e ≠ none → (skipV l i e most).1 = i) := by
  have h2 := left_le (e := e) hi
  unfold skipV
  cases e with
  | some c => exact ⟨Nat.le_refl _, hi, fun _ => rfl⟩
  | none =>
    simp only [Option.isNone_none, if_true]
    split
    · exact ⟨Nat.le_refl _, hi, fun q => absurd rfl q⟩
    · split
      · exact ⟨Nat.le_refl _, hi, fun q => absurd rfl q⟩
      · refine ⟨by simp, by simp; omega, fun q => absurd rfl q⟩
/-- An act goes on in the text, and not behind an error. -/
theorem step_bd (kk : Int) (hi : i ≤ l.length) : i ≤ (stepV kk B wd ws least most l i e).1 ∧ (stepV kk B wd ws least most l i e).1 ≤ l.length ∧ (e ≠ none → (stepV kk B wd ws least most l i e).1 = i) := by
  have hL := left_le (e := e) hi
  have hF : ∀ w : List Int, i ≤ (if foldV l i e w = true then i + w.length else i) ∧ (if foldV l i e w = true then i + w.length else i) ≤ l.length ∧ (e ≠ none → (if foldV l i e w = true then i + w.length else i) = i) := by
    intro w
    split
    · rename_i h
      have h1 := fold_len h
      exact ⟨by omega, by omega, fun q => absurd h1.2 q⟩
    · exact ⟨Nat.le_refl _, hi, fun _ => rfl⟩
  have hT : ∀ p : Int → Bool, i ≤ i + ((leftV l i e).takeWhile p).length ∧ i + ((leftV l i e).takeWhile p).length ≤ l.length ∧ (e ≠ none → i + ((leftV l i e).takeWhile p).length = i) := by
    intro p
    have h := tw_len (p := p) (leftV l i e)
    refine ⟨by omega, by omega, fun q => ?_⟩
    rw [left_bad q]; rfl
  unfold stepV
  split
  · simp only
    split
    · rename_i h
      have h1 := comes_len h
      refine ⟨by omega, by omega, fun q => ?_⟩
      rw [left_bad q] at h1; simp at h1
    · exact ⟨Nat.le_refl _, hi, fun _ => rfl⟩
  split
  · exact hF wd
  split
  · exact hT _
  split
  · exact hT _
  split
  · have h := sfig_bd (e := e) (least := least) (most := most) hi
    simp only
    refine ⟨by omega, by omega, fun q => ?_⟩
    have := h.2.2 q
    omega
  split
  · exact hF wd
  split
  · exact word_bd hi ws 0
  split
  · exact skip_bd hi
  · exact ⟨Nat.le_refl _, hi, fun _ => rfl⟩
theorem sfig_ok (he : EOK e) : EOK (sfigV l i e least most).2.2 := by
  unfold sfigV
  cases e with
  | some c => exact he
  | none =>
    have hq : (takeV (strOfNums (l.drop i)) least most 9223372036854775807).2.2 ≠ some 0 := by
      unfold takeV
      repeat' split
      all_goals simp
    rcases ht : takeV (strOfNums (l.drop i)) least most 9223372036854775807 with ⟨n, m, q⟩
    rw [ht] at hq
    cases q with
    | none => simp [EOK]
    | some q => exact hq
theorem word_ok (he : EOK e) : ∀ (ws : List ByteArray) (j : Int), EOK (wordV l i e ws j).2.2
  | [], j => by
    unfold wordV
    cases e with
    | none => simp [EOK]
    | some c => exact he
  | w :: ws, j => by
    unfold wordV
    split
    · exact he
    · exact word_ok he ws (j + 1)
theorem step_ok (kk : Int) (he : EOK e) : EOK (stepV kk B wd ws least most l i e).2 := by
  have h2 : ∀ c : Int, c ≠ 0 → EOK (if e.isNone = true then some c else e) := by
    intro c hc
    cases e with
    | none => simpa [EOK] using hc
    | some d => exact he
  unfold stepV
  split
  · exact he
  split
  · exact he
  split
  · exact he
  split
  · exact he
  split
  · exact sfig_ok he
  split
  · simp only
    split
    · exact he
    · exact h2 2 (by decide)
  split
  · exact word_ok he ws 0
  split
  · unfold skipV
    cases e with
    | some c => exact he
    | none => simp only [Option.isNone_none, if_true]; split
              · simp [EOK]
              · split <;> simp [EOK]
  · exact h2 11 (by decide)
end
end Go.Proofs.Ytonjfggfcnpgbaa.MScanPlays

/- What is more than is looked at. -/
namespace Go.Proofs.Ytonjfggfcnpgbaa.MScanPlays
open Go.RowKit Go.Proofs.YtonjfggfcnpgbaaW.PrintWords Go.Proofs.YtonjfggfcnpgbaaW.PrintLast Go.Proofs.YtonjfggfcnpgbaaW.PrintMore Go.Proofs.Ytonjfggfcnpgbaa.Base
set_option linter.unusedVariables false
set_option linter.unusedSimpArgs false

def ok35 (x : S35) : Prop := ((Lit.int .i64 x.f0).wf = true) ∧ ((Lit.int .u8 x.f1).wf = true) ∧ (x.f2.size ≤ 9223372036854775807) ∧ ((x.f3.length ≤ 9223372036854775807 ∧ ∀ y_ ∈ x.f3, y_.size ≤ 9223372036854775807)) ∧ ((Lit.int .i64 x.f4).wf = true) ∧ ((Lit.int .i64 x.f5).wf = true)
def bigS (w : ByteArray) : Bool := decide ((w.size : Int) > 60)
def bigA (a : S35) : Bool := bigS a.f2 || (decide ((a.f3.length : Int) > 12) || a.f3.any bigS)
def longV (t : ByteArray) (ls : List S35) : Bool := ls.any bigA || (decide ((t.size : Int) > 300) || decide ((ls.length : Int) > 60))
theorem long_l1 (t : ByteArray) (ls : List S35) (i : Int) (ws : List ByteArray) (hw : ws.length ≤ 9223372036854775807) (R : Bool) (hR : Ev (fun k => horologelaw04_long.l0 k t ls ls (ls.length : Int) (wrap64 (i + 1))) R) : ∀ (m j : Nat), j + m = ws.length →
    Ev (fun k => horologelaw04_long.l1 k t ls ls (ls.length : Int) i ws (ws.length : Int) (j : Int)) ((ws.drop j).any bigS || R)
  | 0, j, h => by
    rw [List.drop_of_length_le (by omega)]
    refine Ev.up ?_
    simp only [horologelaw04_long.l1]
    exact Ev.neg (by omega) hR
  | m + 1, j, h => by
    have hj : j < ws.length := by omega
    rw [List.drop_eq_getElem_cons hj]
    refine Ev.up ?_
    simp only [horologelaw04_long.l1]
    refine Ev.pos (by omega) (Ev.pos (by omega) (Ev.pos (by omega) ?_))
    rw [show rdOf ByteArray.empty ws (j : Int) = ws[j] by unfold rdOf; simp [List.getD, hj]]
    simp only [List.any_cons, bigS]
    refine Ev.ite (fun hc => ?_) (fun hc => ?_)
    · rw [decide_eq_true hc]; exact Ev.now _
    · rw [decide_eq_false hc, Bool.false_or, show wrap64 ((j : Int) + 1) = ((j + 1 : Nat) : Int) from wr (by omega)]
      exact long_l1 t ls i ws hw R hR m (j + 1) (by omega)
theorem long_l0 (t : ByteArray) (ls : List S35) (hl : ls.length ≤ 9223372036854775807) (hok : ∀ y ∈ ls, ok35 y) : ∀ (m i : Nat), i + m = ls.length →
    Ev (fun k => horologelaw04_long.l0 k t ls ls (ls.length : Int) (i : Int)) ((ls.drop i).any bigA || (decide ((t.size : Int) > 300) || decide ((ls.length : Int) > 60)))
  | 0, i, h => by
    rw [List.drop_of_length_le (by omega)]
    refine Ev.up ?_
    simp only [horologelaw04_long.l0]
    refine Ev.neg (by omega) ?_
    refine Ev.ite (fun hc => ?_) (fun hc => ?_)
    · rw [decide_eq_true hc]; exact Ev.now _
    · rw [decide_eq_false hc]; exact Ev.now _
  | m + 1, i, h => by
    have hi : i < ls.length := by omega
    have hok' := hok _ (List.getElem_mem hi)
    have IH := long_l0 t ls hl hok m (i + 1) (by omega)
    rw [← show wrap64 ((i : Int) + 1) = ((i + 1 : Nat) : Int) from wr (by omega)] at IH
    rw [List.drop_eq_getElem_cons hi]
    generalize hR : ((ls.drop (i + 1)).any bigA || (decide ((t.size : Int) > 300) || decide ((ls.length : Int) > 60))) = R at IH
    simp only [List.any_cons, Bool.or_assoc]
    rw [hR]
    refine Ev.up ?_
    simp only [horologelaw04_long.l0]
    refine Ev.pos (by omega) (Ev.pos (by omega) (Ev.pos (by omega) ?_))
    rw [show rd_T35 ls (i : Int) = ls[i] by unfold rd_T35; simp [List.getD, hi]]
    have L1 := long_l1 t ls (i : Int) (ls[i]).f3 hok'.2.2.2.1.1 R IH (ls[i]).f3.length 0 (by omega)
    rw [List.drop_zero] at L1
    unfold bigA
    have jt : ∀ (b : Bool) (c : Bool), (b = true → c = true) → (b = false → c = ((ls[i]).f3.any bigS || R)) → Ev (fun k => horologelaw04_long.j1 k t ls ls (ls.length : Int) (i : Int) b (ls[i]).f0 (ls[i]).f1 (ls[i]).f2 (ls[i]).f3 (ls[i]).f4 (ls[i]).f5) c := by
      intro b c h1 h2
      refine Ev.up ?_
      simp only [horologelaw04_long.j1]
      cases b with
      | true => rw [h1 rfl]; exact Ev.now _
      | false => rw [h2 rfl]; simpa using L1
    refine Ev.ite (fun hc => ?_) (fun hc => ?_)
    · refine jt true _ (fun _ => ?_) (fun q => by cases q)
      simp only [bigS, decide_eq_true hc, Bool.true_or]
    · refine jt _ _ (fun q => ?_) (fun q => ?_)
      · rw [q]; simp
      · rw [q]; simp only [bigS, decide_eq_false hc, Bool.false_or]
theorem long_is (t : ByteArray) (ls : List S35) (hl : ls.length ≤ 9223372036854775807) (hok : ∀ y ∈ ls, ok35 y) : Ev (fun k => horologelaw04_long.f k t ls) (longV t ls) := by
  have h := long_l0 t ls hl hok ls.length 0 (by omega)
  rw [List.drop_zero] at h
  exact h
theorem long_no {t : ByteArray} {ls : List S35} (h : longV t ls = false) : t.size ≤ 300 ∧ ls.length ≤ 60 ∧ ∀ a ∈ ls, a.f2.size ≤ 60 ∧ a.f3.length ≤ 12 ∧ ∀ x ∈ a.f3, x.size ≤ 60 := by
  unfold longV at h
  simp only [Bool.or_eq_false_iff, decide_eq_false_iff_not, List.any_eq_false] at h
  obtain ⟨h1, h2, h3⟩ := h
  refine ⟨by omega, by omega, fun a ha => ?_⟩
  have h4 := h1 a ha
  simp only [bigA, bigS, Bool.or_eq_true, decide_eq_true_eq, List.any_eq_true, not_or, not_exists, not_and] at h4
  refine ⟨by omega, by omega, fun x hx => ?_⟩
  have := h4.2.2 x hx
  omega
set_option maxRecDepth 100000 in
theorem alive_is : ∃ k, horologelaw04_alive.f k = some true := ⟨60, by kernel_rfl⟩
end Go.Proofs.Ytonjfggfcnpgbaa.MScanPlays

/- What the program's scanner of strings answers, in plain Lean. -/
namespace Go.Proofs.Ytonjfggfcnpgbaa.MScanPlays
open Go.RowKit Go.Proofs.YtonjfggfcnpgbaaW.PrintWords Go.Proofs.YtonjfggfcnpgbaaW.PrintLast Go.Proofs.YtonjfggfcnpgbaaW.PrintMore Go.Proofs.Ytonjfggfcnpgbaa.Base
set_option linter.unusedVariables false
set_option linter.unusedSimpArgs false

theorem string_rest_is (l : List Int) (i : Nat) (e : Option Int) (hi : i ≤ l.length) : sS_rest.f (strOfNums l) i e = some (strOfNums (leftV l i e), strOfNums l, (i : Int), e) := by
  unfold sS_rest.f
  cases e with
  | none =>
    rw [if_pos (show (none : Option Int).isNone = true from rfl), if_pos (by omega), if_pos (by rw [son_size]; omega), Int.toNat_natCast, son_cut]; rfl
  | some c => rfl
theorem string_take_is (l : List Int) (i : Nat) (e : Option Int) (n : Nat) (hi : i ≤ l.length) (hl : l.length ≤ 140737488351232) (hn : n ≤ (leftV l i e).length) :
    Ev (fun k => sS_take.f k (strOfNums l) i e n) (strOfNums ((leftV l i e).take n), strOfNums l, ((i + n : Nat) : Int), e) := by
  have hb := leftV_len l i e
  unfold sS_take.f
  refine Ev.bindc (string_rest_is l i e hi) (Ev.pos (by omega) (Ev.pos (by rw [son_size]; omega) ?_))
  simp only [Int.toNat_natCast, son_first]
  have hc := sclone_is ((leftV l i e).take n) (by rw [List.length_take]; omega)
  refine Ev.ite (fun h => ?_) (fun h => ?_)
  · refine Ev.up ?_
    simp only [sS_take.j0]
    refine Ev.bindc hc (Ev.cast (Ev.now _) ?_)
    have hn2 : i + n ≤ l.length := by
      unfold leftV at hn; split at hn
      · rw [List.length_drop] at hn; omega
      · simp at hn; omega
    rw [show wrap64 ((i : Int) + (n : Int)) = ((i + n : Nat) : Int) from wr (by omega)]
  · obtain rfl : n = 0 := by omega
    refine Ev.up ?_
    simp only [sS_take.j0]
    exact Ev.bindc hc (Ev.now _)
theorem string_peek_is (l : List Int) (hb : Byt l) (i : Nat) (e : Option Int) (hi : i ≤ l.length) : sS_Peek.f (strOfNums l) i e = some ((leftV l i e).headD 0, decide (leftV l i e ≠ []), strOfNums l, (i : Int), e) := by
  unfold sS_Peek.f
  rw [string_rest_is l i e hi]
  simp only [Option.bind_some]
  have hb2 := leftV_byt hb i e
  generalize leftV l i e = r at *
  cases r with
  | nil => rw [if_pos (by rw [son_toList]; rfl)]; rfl
  | cons x r =>
    rw [if_neg (by rw [son_toList]; simp), if_pos (by rw [son_size]; simp)]
    have := bt_at_son hb2 (i := 0) (by simp)
    rw [show bt (strOfNums (x :: r)) 0 = x from this]
    simp
theorem string_Take_is (l : List Int) (hb : Byt l) (i : Nat) (e : Option Int) (c : Int) (hi : i ≤ l.length) (hl : l.length ≤ 140737488351232) :
    Ev (fun k => sS_Take.f k (strOfNums l) i e c) (comesV (leftV l i e) c, strOfNums l, (if comesV (leftV l i e) c = true then ((i + 1 : Nat) : Int) else (i : Int)), e) := by
  unfold sS_Take.f
  refine Ev.bindc (string_peek_is l hb i e hi) ?_
  simp only []
  have ht := fun h => string_take_is l i e 1 hi hl h
  generalize leftV l i e = r at *
  cases r with
  | nil => exact Ev.neg (by simp) (Ev.now _)
  | cons x r =>
    refine Ev.pos (by simp) ?_
    unfold comesV
    by_cases h : x = c
    · subst h
      refine Ev.pos rfl (Ev.bind (show Ev (fun k => sS_take.f k (strOfNums l) (↑i) e 1) _ from ht (by simp)) (Ev.cast (Ev.now _) (by simp)))
    · refine Ev.neg h (Ev.cast (Ev.now _) ?_)
      have : ((x :: r).head? == some c) = false := by simpa using h
      rw [this]; rfl
theorem string_going_is (s : ByteArray) (i : Int) (e : Option Int) : sS_going.f s i e = some (e.isNone, s, i, e) := by
  unfold sS_going.f
  cases e <;> rfl
theorem string_Figures_is (l : List Int) (hb : Byt l) (i : Nat) (e : Option Int) (least most : Int) (hi : i ≤ l.length) (hl : l.length ≤ 140737488351232) :
    Ev (fun k => sS_Figures.f k (strOfNums l) i e least most) ((sfigV l i e least most).1, strOfNums l, (sfigV l i e least most).2.1, (sfigV l i e least most).2.2) := by
  unfold sS_Figures.f
  refine Ev.bindc (string_going_is _ _ _) ?_
  cases e with
  | some c => exact Ev.neg (by simp) (Ev.now _)
  | none =>
    refine Ev.pos rfl (Ev.bindc (string_rest_is l i none hi) ?_)
    simp only [leftV_none]
    refine Ev.bind (tTake_is _ least most zq87) ?_
    unfold sfigV
    have hle := takeV_le (strOfNums (l.drop i)) least most 9223372036854775807
    rw [son_size, List.length_drop] at hle
    rcases hq : takeV (strOfNums (l.drop i)) least most 9223372036854775807 with ⟨n, m, q⟩
    rw [hq] at hle
    simp only at hle
    cases q with
    | some q => exact Ev.neg (by simp) (Ev.now _)
    | none =>
      obtain ⟨m', rfl⟩ : ∃ m' : Nat, m = (m' : Int) := ⟨m.toNat, by omega⟩
      refine Ev.pos rfl (Ev.bind (string_take_is l i none m' hi hl (by rw [leftV_none, List.length_drop]; omega)) (Ev.cast (Ev.now _) ?_))
      show (n, strOfNums l, ((i + m' : Nat) : Int), (none : Option Int)) = (n, strOfNums l, (i : Int) + m', none)
      rw [show ((i + m' : Nat) : Int) = (i : Int) + m' by omega]
theorem string_Err_is (s : ByteArray) (i : Int) (e : Option Int) : sS_Err.f s i e = some (e, s, i, e) := rfl
theorem string_At_is (s : ByteArray) (i : Int) (e : Option Int) : sS_At.f s i e = some (i, s, i, e) := rfl
theorem string_Left_is (l : List Int) (i : Nat) (e : Option Int) (hi : i ≤ l.length) : sS_Left.f (strOfNums l) i e = some (((leftV l i e).length : Int), strOfNums l, (i : Int), e) := by
  unfold sS_Left.f
  rw [string_rest_is l i e hi]
  simp only [Option.bind_some, son_size]
theorem string_End_is (l : List Int) (i : Nat) (e : Option Int) (hi : i ≤ l.length) : sS_End.f (strOfNums l) i e = some (endV l i e, strOfNums l, (i : Int), e) := by
  unfold sS_End.f
  rw [string_Err_is]
  cases e with
  | some c => rfl
  | none =>
    simp only [Option.bind_some]
    rw [if_pos (show (none : Option Int).isNone = true from rfl), string_Left_is l i none hi]
    simp only [Option.bind_some, leftV_none, List.length_drop]
    unfold endV
    by_cases h : i < l.length
    · rw [if_pos (by omega)]; simp only [if_pos h]
    · rw [if_neg (by omega)]; simp only [if_neg h]
theorem string_Fail_is (s : ByteArray) (i : Int) (e : Option Int) (c : Int) : sS_Fail.f s i e (some c) = some (s, i, if e.isNone = true then some c else e) := by
  unfold sS_Fail.f
  rw [string_going_is]
  cases e <;> rfl
theorem string_Fold_is (l : List Int) (hb : Byt l) (i : Nat) (e : Option Int) (w : List Int) (hw : Byt w) (hi : i ≤ l.length) (hl : l.length ≤ 1000000) :
    Ev (fun k => sS_Fold.f k (strOfNums l) i e (strOfNums w)) (foldV l i e w, strOfNums l, (if foldV l i e w = true then ((i + w.length : Nat) : Int) else (i : Int)), e) := by
  unfold sS_Fold.f
  refine Ev.bindc (string_rest_is l i e hi) (Ev.bindc (string_going_is _ _ _) ?_)
  simp only []
  have no : foldV l i e w = false → Ev (fun k => sS_Fold.j0 k (strOfNums w) true (strOfNums l) (i : Int) e) (foldV l i e w, strOfNums l, (if foldV l i e w = true then ((i + w.length : Nat) : Int) else (i : Int)), e) := by
    intro h
    rw [h]
    refine Ev.up ?_
    simp only [sS_Fold.j0, if_true]
    exact Ev.now _
  cases e with
  | some c => exact Ev.neg (by simp) (no rfl)
  | none =>
    refine Ev.pos rfl ?_
    have ht := fun h => string_take_is l i none w.length hi (by omega) h
    have hbr := leftV_byt hb i none
    rw [son_size, son_size]
    by_cases hlen : (leftV l i none).length < w.length
    · refine Ev.pos (by omega) (no ?_)
      unfold foldV
      rw [decide_eq_false (show ¬ w.length ≤ (leftV l i none).length by omega)]; rfl
    · refine Ev.neg (by omega) (Ev.pos (by omega) (Ev.pos (by omega) ?_))
      rw [Int.toNat_natCast, son_first]
      have hl2 : ((leftV l i none).take w.length).length = w.length := by rw [List.length_take]; omega
      have hll := leftV_len l i none
      refine Ev.bind (alike_is _ w (hbr.take _) hw hl2 (by rw [hl2]; omega)) ?_
      have hf : foldV l i none w = alB ((leftV l i none).take w.length) w := by
        unfold foldV
        rw [decide_eq_true (show w.length ≤ (leftV l i none).length by omega)]; rfl
      cases ha : alB ((leftV l i none).take w.length) w with
      | false => exact no (hf.trans ha)
      | true =>
        rw [hf, ha]
        refine Ev.up ?_
        simp only [sS_Fold.j0, son_size]
        exact Ev.neg (by decide) (Ev.bind (ht (by omega)) (Ev.now _))
/-- A word that must come: the place, the error. -/
theorem string_Must_is (l : List Int) (hb : Byt l) (i : Nat) (e : Option Int) (w : List Int) (hw : Byt w) (hi : i ≤ l.length) (hl : l.length ≤ 1000000) :
    Ev (fun k => sS_Must.f k (strOfNums l) i e (strOfNums w)) (strOfNums l, (if foldV l i e w = true then ((i + w.length : Nat) : Int) else (i : Int)), (if foldV l i e w = true then e else if e.isNone = true then some 2 else e)) := by
  unfold sS_Must.f
  refine Ev.bind (string_Fold_is l hb i e w hw hi hl) ?_
  by_cases h : foldV l i e w = true
  · simp only [if_pos h]
    exact Ev.now _
  · simp only [if_neg h]
    exact Ev.bindc (string_Fail_is _ _ _ _) (Ev.now _)
theorem string_Skip_is (l : List Int) (i : Nat) (e : Option Int) (m : Int) (hi : i ≤ l.length) (hl : l.length ≤ 1000000) :
    Ev (fun k => sS_Skip.f k (strOfNums l) i e m) (strOfNums l, ((skipV l i e m).1 : Int), (skipV l i e m).2) := by
  unfold sS_Skip.f skipV
  refine Ev.bindc (string_going_is _ _ _) ?_
  cases e with
  | some c => exact Ev.neg (by simp) (Ev.now _)
  | none =>
    refine Ev.pos rfl ?_
    rw [if_pos (show (none : Option Int).isNone = true from rfl)]
    refine Ev.ite (fun h => ?_) (fun h => ?_)
    · rw [if_pos h]; exact Ev.now _
    · rw [if_neg h]
      refine Ev.bindc (string_Left_is l i none hi) (Ev.ite (fun h2 => ?_) (fun h2 => ?_))
      · rw [if_pos h2]; exact Ev.now _
      · rw [if_neg h2]
        obtain ⟨m', rfl⟩ := Int.eq_ofNat_of_zero_le (show 0 ≤ m by omega)
        refine Ev.bind (string_take_is l i none m' hi (by omega) (by simp only at h2; omega)) (Ev.now _)
theorem string_Word_l0 (l : List Int) (hb : Byt l) (i : Nat) (e : Option Int) (hi : i ≤ l.length) (hl : l.length ≤ 1000000) (ws : List ByteArray) (hws : ws.length ≤ 1000) : ∀ (m j : Nat), j + m = ws.length →
    Ev (fun k => sS_Word.l0 k ws (ws.length : Int) (j : Int) (strOfNums l) i e) ((wordV l i e (ws.drop j) j).1, strOfNums l, ((wordV l i e (ws.drop j) j).2.1 : Int), (wordV l i e (ws.drop j) j).2.2)
  | 0, j, h => by
    rw [List.drop_of_length_le (by omega)]
    refine Ev.up ?_
    simp only [sS_Word.l0]
    exact Ev.neg (by omega) (Ev.bindc (string_Fail_is _ _ _ _) (Ev.now _))
  | m + 1, j, h => by
    have hj : j < ws.length := by omega
    rw [List.drop_eq_getElem_cons hj]
    have hrd : rdOf ByteArray.empty ws (j : Int) = ws[j] := by unfold rdOf; simp [hj]
    have hf := string_Fold_is l hb i e (bytesOf ws[j]) (byt_of _) hi hl
    rw [son_of] at hf
    refine Ev.up ?_
    simp only [sS_Word.l0]
    refine Ev.pos (by omega) (Ev.pos (by omega) (Ev.pos (by omega) ?_))
    rw [hrd]
    refine Ev.bind hf ?_
    unfold wordV
    by_cases hc : foldV l i e (bytesOf ws[j]) = true
    · simp only [if_pos hc]
      exact Ev.now _
    · simp only [if_neg hc]
      rw [show wrap64 ((j : Int) + 1) = ((j + 1 : Nat) : Int) from wr (by omega)]
      exact string_Word_l0 l hb i e hi hl ws hws m (j + 1) (by omega)
theorem string_Word_is (l : List Int) (hb : Byt l) (i : Nat) (e : Option Int) (hi : i ≤ l.length) (hl : l.length ≤ 1000000) (ws : List ByteArray) (hws : ws.length ≤ 1000) :
    Ev (fun k => sS_Word.f k (strOfNums l) i e ws) ((wordV l i e ws 0).1, strOfNums l, ((wordV l i e ws 0).2.1 : Int), (wordV l i e ws 0).2.2) := string_Word_l0 l hb i e hi hl ws hws ws.length 0 (by omega)
theorem string_Run_l0 (l set : List Int) (hb : Byt l) (hs : Byt set) (i : Nat) (e : Option Int) (hi : i ≤ l.length) (hl : l.length ≤ 140737488351232) (m : Nat) :
    ∀ j : Nat, j + m = (leftV l i e).length → (∀ q : Nat, q < j → ∀ h : q < (leftV l i e).length, (leftV l i e)[q] ∈ set) →
    Ev (fun k => sS_Run.l0 k (strOfNums set) (strOfNums (leftV l i e)) j (strOfNums l) i e) (strOfNums ((leftV l i e).takeWhile (fun x => decide (x ∈ set))), strOfNums l, ((i + ((leftV l i e).takeWhile (fun x => decide (x ∈ set))).length : Nat) : Int), e) := by
  have ht : ∀ n : Nat, n ≤ (leftV l i e).length → Ev (fun k => sS_Run.j1 k (n : Int) (strOfNums l) (i : Int) e) (strOfNums ((leftV l i e).take n), strOfNums l, ((i + n : Nat) : Int), e) := by
    intro n h
    refine Ev.up ?_
    simp only [sS_Run.j1]
    exact Ev.bind (string_take_is l i e n hi hl h) (Ev.now _)
  have hlen := leftV_len l i e
  have hbr := leftV_byt hb i e
  have stop : ∀ j : Nat, j ≤ (leftV l i e).length → (∀ q : Nat, q < j → ∀ h : q < (leftV l i e).length, (leftV l i e)[q] ∈ set) → (∀ h : j < (leftV l i e).length, (leftV l i e)[j] ∉ set) → ((leftV l i e).takeWhile (fun x => decide (x ∈ set))).length = j := by
    intro j hj hin hout
    generalize leftV l i e = r at *
    have e1 : r = r.take j ++ r.drop j := (List.take_append_drop j r).symm
    have hall : ∀ x ∈ r.take j, (fun x => decide (x ∈ set)) x = true := by
      intro x hx
      obtain ⟨q, hq, rfl⟩ := List.getElem_of_mem hx
      rw [List.length_take] at hq
      rw [List.getElem_take]
      exact decide_eq_true (hin q (by omega) (by omega))
    have e2 : r.takeWhile (fun x => decide (x ∈ set)) = r.take j ++ (r.drop j).takeWhile (fun x => decide (x ∈ set)) := by
      conv => lhs; rw [e1]
      exact List.takeWhile_append_of_pos hall
    have e3 : (r.drop j).takeWhile (fun x => decide (x ∈ set)) = [] := by
      by_cases h : j < r.length
      · rw [List.drop_eq_getElem_cons h, List.takeWhile_cons, if_neg (by simpa using hout h)]
      · rw [List.drop_of_length_le (by omega)]; rfl
    rw [e2, e3, List.append_nil, List.length_take]; omega
  induction m with
  | zero =>
    intro j hj hin
    have hs_ := stop j (by omega) hin (fun h => by omega)
    refine Ev.up ?_
    simp only [sS_Run.l0]
    refine Ev.neg (by rw [son_size]; omega) (Ev.cast (ht j (by omega)) ?_)
    rw [← hs_, tw_take]
  | succ m ih =>
    intro j hj hin
    have hx := bt_at_son hbr (i := j) (by omega)
    have hr := hbr _ (List.getElem_mem (l := leftV l i e) (n := j) (by omega))
    obtain ⟨t, h1, h2⟩ := smem_is set hs _ hr
    refine Ev.up ?_
    simp only [sS_Run.l0]
    rw [hx]
    refine Ev.pos (by rw [son_size]; omega) (Ev.pos (by omega) (Ev.bindc h1 (Ev.ite (fun h => ?_) (fun h => ?_))))
    · rw [show wrap64 ((j : Int) + 1) = ((j + 1 : Nat) : Int) from wr (by omega)]
      refine ih (j + 1) (by omega) ?_
      intro q hq hql
      by_cases e : q = j
      · subst e; exact h2.mp h
      · exact hin q (by omega) hql
    · have hs_ := stop j (by omega) hin (fun _ hm => h (h2.mpr hm))
      refine Ev.cast (ht j (by omega)) ?_
      rw [← hs_, tw_take]
theorem string_Run_is (l set : List Int) (hb : Byt l) (hs : Byt set) (i : Nat) (e : Option Int) (hi : i ≤ l.length) (hl : l.length ≤ 140737488351232) :
    Ev (fun k => sS_Run.f k (strOfNums l) i e (strOfNums set)) (strOfNums ((leftV l i e).takeWhile (fun x => decide (x ∈ set))), strOfNums l, ((i + ((leftV l i e).takeWhile (fun x => decide (x ∈ set))).length : Nat) : Int), e) := by
  unfold sS_Run.f
  exact Ev.bindc (string_rest_is l i e hi) (string_Run_l0 l set hb hs i e hi hl (leftV l i e).length 0 (by omega) (fun q hq => by omega))
theorem string_Until_is (l : List Int) (hb : Byt l) (i : Nat) (e : Option Int) (c : Int) (hc : 0 ≤ c ∧ c ≤ 255) (hi : i ≤ l.length) (hl : l.length ≤ 140737488351232) :
    Ev (fun k => sS_Until.f k (strOfNums l) i e c) (strOfNums ((leftV l i e).takeWhile (fun x => x != c)), strOfNums l, ((i + ((leftV l i e).takeWhile (fun x => x != c)).length : Nat) : Int), e) := by
  unfold sS_Until.f
  refine Ev.bindc (string_rest_is l i e hi) (Ev.bindc (sidx_is _ (leftV_byt hb i e) c hc) ?_)
  simp only []
  have ht : ∀ n : Nat, n ≤ (leftV l i e).length → Ev (fun k => sS_Until.j0 k (n : Int) (strOfNums l) (i : Int) e) (strOfNums ((leftV l i e).take n), strOfNums l, ((i + n : Nat) : Int), e) := by
    intro n h
    refine Ev.up ?_
    simp only [sS_Until.j0]
    exact Ev.bind (string_take_is l i e n hi hl h) (Ev.now _)
  have hq := tw_take (p := fun x => x != c) (leftV l i e)
  have hle := tw_len (p := fun x => x != c) (leftV l i e)
  by_cases h : ((leftV l i e).takeWhile (fun x => x != c)).length < (leftV l i e).length
  · rw [if_pos h]
    refine Ev.neg (by omega) (Ev.cast (ht _ hle) ?_)
    rw [hq]
  · rw [if_neg h]
    refine Ev.pos (by decide) ?_
    rw [son_size]
    refine Ev.cast (ht _ (Nat.le_refl _)) ?_
    have : (leftV l i e).takeWhile (fun x => x != c) = leftV l i e := (List.takeWhile_prefix _).eq_of_length_le (by omega)
    rw [List.take_of_length_le (Nat.le_refl _), this]
end Go.Proofs.Ytonjfggfcnpgbaa.MScanPlays

/- What the program's scanner of bytes answers, in plain Lean. -/
namespace Go.Proofs.Ytonjfggfcnpgbaa.MScanPlays
open Go.RowKit Go.Proofs.YtonjfggfcnpgbaaW.PrintWords Go.Proofs.YtonjfggfcnpgbaaW.PrintLast Go.Proofs.YtonjfggfcnpgbaaW.PrintMore Go.Proofs.Ytonjfggfcnpgbaa.Base
set_option linter.unusedVariables false
set_option linter.unusedSimpArgs false

theorem byte_rest_is (l : List Int) (i : Nat) (e : Option Int) (hi : i ≤ l.length) : sB_rest.f (strOfNums l) i e = some (strOfNums (leftV l i e), strOfNums l, (i : Int), e) := by
  unfold sB_rest.f
  cases e with
  | none =>
    rw [if_pos (show (none : Option Int).isNone = true from rfl), if_pos (by omega), if_pos (by rw [son_size]; omega), Int.toNat_natCast, son_cut]; rfl
  | some c => rfl
theorem byte_take_is (l : List Int) (i : Nat) (e : Option Int) (n : Nat) (hi : i ≤ l.length) (hl : l.length ≤ 140737488351232) (hn : n ≤ (leftV l i e).length) :
    Ev (fun k => sB_take.f k (strOfNums l) i e n) (strOfNums ((leftV l i e).take n), strOfNums l, ((i + n : Nat) : Int), e) := by
  have hb := leftV_len l i e
  unfold sB_take.f
  refine Ev.bindc (byte_rest_is l i e hi) (Ev.pos (by omega) (Ev.pos (by rw [son_size]; omega) ?_))
  simp only [Int.toNat_natCast, son_first]
  have hc := sclone_is ((leftV l i e).take n) (by rw [List.length_take]; omega)
  refine Ev.ite (fun h => ?_) (fun h => ?_)
  · refine Ev.up ?_
    simp only [sB_take.j0]
    refine Ev.bindc hc (Ev.cast (Ev.now _) ?_)
    have hn2 : i + n ≤ l.length := by
      unfold leftV at hn; split at hn
      · rw [List.length_drop] at hn; omega
      · simp at hn; omega
    rw [show wrap64 ((i : Int) + (n : Int)) = ((i + n : Nat) : Int) from wr (by omega)]
  · obtain rfl : n = 0 := by omega
    refine Ev.up ?_
    simp only [sB_take.j0]
    exact Ev.bindc hc (Ev.now _)
theorem byte_peek_is (l : List Int) (hb : Byt l) (i : Nat) (e : Option Int) (hi : i ≤ l.length) : sB_Peek.f (strOfNums l) i e = some ((leftV l i e).headD 0, decide (leftV l i e ≠ []), strOfNums l, (i : Int), e) := by
  unfold sB_Peek.f
  rw [byte_rest_is l i e hi]
  simp only [Option.bind_some]
  have hb2 := leftV_byt hb i e
  generalize leftV l i e = r at *
  cases r with
  | nil => rw [if_pos (by rw [son_toList]; rfl)]; rfl
  | cons x r =>
    rw [if_neg (by rw [son_toList]; simp), if_pos (by rw [son_size]; simp)]
    have := bt_at_son hb2 (i := 0) (by simp)
    rw [show bt (strOfNums (x :: r)) 0 = x from this]
    simp
theorem byte_Take_is (l : List Int) (hb : Byt l) (i : Nat) (e : Option Int) (c : Int) (hi : i ≤ l.length) (hl : l.length ≤ 140737488351232) :
    Ev (fun k => sB_Take.f k (strOfNums l) i e c) (comesV (leftV l i e) c, strOfNums l, (if comesV (leftV l i e) c = true then ((i + 1 : Nat) : Int) else (i : Int)), e) := by
  unfold sB_Take.f
  refine Ev.bindc (byte_peek_is l hb i e hi) ?_
  simp only []
  have ht := fun h => byte_take_is l i e 1 hi hl h
  generalize leftV l i e = r at *
  cases r with
  | nil => exact Ev.neg (by simp) (Ev.now _)
  | cons x r =>
    refine Ev.pos (by simp) ?_
    unfold comesV
    by_cases h : x = c
    · subst h
      refine Ev.pos rfl (Ev.bind (show Ev (fun k => sB_take.f k (strOfNums l) (↑i) e 1) _ from ht (by simp)) (Ev.cast (Ev.now _) (by simp)))
    · refine Ev.neg h (Ev.cast (Ev.now _) ?_)
      have : ((x :: r).head? == some c) = false := by simpa using h
      rw [this]; rfl
theorem byte_going_is (s : ByteArray) (i : Int) (e : Option Int) : sB_going.f s i e = some (e.isNone, s, i, e) := by
  unfold sB_going.f
  cases e <;> rfl
theorem byte_Figures_is (l : List Int) (hb : Byt l) (i : Nat) (e : Option Int) (least most : Int) (hi : i ≤ l.length) (hl : l.length ≤ 140737488351232) :
    Ev (fun k => sB_Figures.f k (strOfNums l) i e least most) ((sfigV l i e least most).1, strOfNums l, (sfigV l i e least most).2.1, (sfigV l i e least most).2.2) := by
  unfold sB_Figures.f
  refine Ev.bindc (byte_going_is _ _ _) ?_
  cases e with
  | some c => exact Ev.neg (by simp) (Ev.now _)
  | none =>
    refine Ev.pos rfl (Ev.bindc (byte_rest_is l i none hi) ?_)
    simp only [leftV_none]
    refine Ev.bind (tTake_is _ least most zq87) ?_
    unfold sfigV
    have hle := takeV_le (strOfNums (l.drop i)) least most 9223372036854775807
    rw [son_size, List.length_drop] at hle
    rcases hq : takeV (strOfNums (l.drop i)) least most 9223372036854775807 with ⟨n, m, q⟩
    rw [hq] at hle
    simp only at hle
    cases q with
    | some q => exact Ev.neg (by simp) (Ev.now _)
    | none =>
      obtain ⟨m', rfl⟩ : ∃ m' : Nat, m = (m' : Int) := ⟨m.toNat, by omega⟩
      refine Ev.pos rfl (Ev.bind (byte_take_is l i none m' hi hl (by rw [leftV_none, List.length_drop]; omega)) (Ev.cast (Ev.now _) ?_))
      show (n, strOfNums l, ((i + m' : Nat) : Int), (none : Option Int)) = (n, strOfNums l, (i : Int) + m', none)
      rw [show ((i + m' : Nat) : Int) = (i : Int) + m' by omega]
theorem byte_Err_is (s : ByteArray) (i : Int) (e : Option Int) : sB_Err.f s i e = some (e, s, i, e) := rfl
theorem byte_At_is (s : ByteArray) (i : Int) (e : Option Int) : sB_At.f s i e = some (i, s, i, e) := rfl
theorem byte_Left_is (l : List Int) (i : Nat) (e : Option Int) (hi : i ≤ l.length) : sB_Left.f (strOfNums l) i e = some (((leftV l i e).length : Int), strOfNums l, (i : Int), e) := by
  unfold sB_Left.f
  rw [byte_rest_is l i e hi]
  simp only [Option.bind_some, son_size]
theorem byte_End_is (l : List Int) (i : Nat) (e : Option Int) (hi : i ≤ l.length) : sB_End.f (strOfNums l) i e = some (endV l i e, strOfNums l, (i : Int), e) := by
  unfold sB_End.f
  rw [byte_Err_is]
  cases e with
  | some c => rfl
  | none =>
    simp only [Option.bind_some]
    rw [if_pos (show (none : Option Int).isNone = true from rfl), byte_Left_is l i none hi]
    simp only [Option.bind_some, leftV_none, List.length_drop]
    unfold endV
    by_cases h : i < l.length
    · rw [if_pos (by omega)]; simp only [if_pos h]
    · rw [if_neg (by omega)]; simp only [if_neg h]
theorem byte_Fail_is (s : ByteArray) (i : Int) (e : Option Int) (c : Int) : sB_Fail.f s i e (some c) = some (s, i, if e.isNone = true then some c else e) := by
  unfold sB_Fail.f
  rw [byte_going_is]
  cases e <;> rfl
theorem byte_Fold_is (l : List Int) (hb : Byt l) (i : Nat) (e : Option Int) (w : List Int) (hw : Byt w) (hi : i ≤ l.length) (hl : l.length ≤ 1000000) :
    Ev (fun k => sB_Fold.f k (strOfNums l) i e (strOfNums w)) (foldV l i e w, strOfNums l, (if foldV l i e w = true then ((i + w.length : Nat) : Int) else (i : Int)), e) := by
  unfold sB_Fold.f
  refine Ev.bindc (byte_rest_is l i e hi) (Ev.bindc (byte_going_is _ _ _) ?_)
  simp only []
  have no : foldV l i e w = false → Ev (fun k => sB_Fold.j0 k (strOfNums w) true (strOfNums l) (i : Int) e) (foldV l i e w, strOfNums l, (if foldV l i e w = true then ((i + w.length : Nat) : Int) else (i : Int)), e) := by
    intro h
    rw [h]
    refine Ev.up ?_
    simp only [sB_Fold.j0, if_true]
    exact Ev.now _
  cases e with
  | some c => exact Ev.neg (by simp) (no rfl)
  | none =>
    refine Ev.pos rfl ?_
    have ht := fun h => byte_take_is l i none w.length hi (by omega) h
    have hbr := leftV_byt hb i none
    rw [son_size, son_size]
    by_cases hlen : (leftV l i none).length < w.length
    · refine Ev.pos (by omega) (no ?_)
      unfold foldV
      rw [decide_eq_false (show ¬ w.length ≤ (leftV l i none).length by omega)]; rfl
    · refine Ev.neg (by omega) (Ev.pos (by omega) (Ev.pos (by omega) ?_))
      rw [Int.toNat_natCast, son_first]
      have hl2 : ((leftV l i none).take w.length).length = w.length := by rw [List.length_take]; omega
      have hll := leftV_len l i none
      refine Ev.bind (alike_is _ w (hbr.take _) hw hl2 (by rw [hl2]; omega)) ?_
      have hf : foldV l i none w = alB ((leftV l i none).take w.length) w := by
        unfold foldV
        rw [decide_eq_true (show w.length ≤ (leftV l i none).length by omega)]; rfl
      cases ha : alB ((leftV l i none).take w.length) w with
      | false => exact no (hf.trans ha)
      | true =>
        rw [hf, ha]
        refine Ev.up ?_
        simp only [sB_Fold.j0, son_size]
        exact Ev.neg (by decide) (Ev.bind (ht (by omega)) (Ev.now _))
/-- A word that must come: the place, the error. -/
theorem byte_Must_is (l : List Int) (hb : Byt l) (i : Nat) (e : Option Int) (w : List Int) (hw : Byt w) (hi : i ≤ l.length) (hl : l.length ≤ 1000000) :
    Ev (fun k => sB_Must.f k (strOfNums l) i e (strOfNums w)) (strOfNums l, (if foldV l i e w = true then ((i + w.length : Nat) : Int) else (i : Int)), (if foldV l i e w = true then e else if e.isNone = true then some 2 else e)) := by
  unfold sB_Must.f
  refine Ev.bind (byte_Fold_is l hb i e w hw hi hl) ?_
  by_cases h : foldV l i e w = true
  · simp only [if_pos h]
    exact Ev.now _
  · simp only [if_neg h]
    exact Ev.bindc (byte_Fail_is _ _ _ _) (Ev.now _)
theorem byte_Skip_is (l : List Int) (i : Nat) (e : Option Int) (m : Int) (hi : i ≤ l.length) (hl : l.length ≤ 1000000) :
    Ev (fun k => sB_Skip.f k (strOfNums l) i e m) (strOfNums l, ((skipV l i e m).1 : Int), (skipV l i e m).2) := by
  unfold sB_Skip.f skipV
  refine Ev.bindc (byte_going_is _ _ _) ?_
  cases e with
  | some c => exact Ev.neg (by simp) (Ev.now _)
  | none =>
    refine Ev.pos rfl ?_
    rw [if_pos (show (none : Option Int).isNone = true from rfl)]
    refine Ev.ite (fun h => ?_) (fun h => ?_)
    · rw [if_pos h]; exact Ev.now _
    · rw [if_neg h]
      refine Ev.bindc (byte_Left_is l i none hi) (Ev.ite (fun h2 => ?_) (fun h2 => ?_))
      · rw [if_pos h2]; exact Ev.now _
      · rw [if_neg h2]
        obtain ⟨m', rfl⟩ := Int.eq_ofNat_of_zero_le (show 0 ≤ m by omega)
        refine Ev.bind (byte_take_is l i none m' hi (by omega) (by simp only at h2; omega)) (Ev.now _)
theorem byte_Word_l0 (l : List Int) (hb : Byt l) (i : Nat) (e : Option Int) (hi : i ≤ l.length) (hl : l.length ≤ 1000000) (ws : List ByteArray) (hws : ws.length ≤ 1000) : ∀ (m j : Nat), j + m = ws.length →
    Ev (fun k => sB_Word.l0 k ws (ws.length : Int) (j : Int) (strOfNums l) i e) ((wordV l i e (ws.drop j) j).1, strOfNums l, ((wordV l i e (ws.drop j) j).2.1 : Int), (wordV l i e (ws.drop j) j).2.2)
  | 0, j, h => by
    rw [List.drop_of_length_le (by omega)]
    refine Ev.up ?_
    simp only [sB_Word.l0]
    exact Ev.neg (by omega) (Ev.bindc (byte_Fail_is _ _ _ _) (Ev.now _))
  | m + 1, j, h => by
    have hj : j < ws.length := by omega
    rw [List.drop_eq_getElem_cons hj]
    have hrd : rdOf ByteArray.empty ws (j : Int) = ws[j] := by unfold rdOf; simp [hj]
    have hf := byte_Fold_is l hb i e (bytesOf ws[j]) (byt_of _) hi hl
    rw [son_of] at hf
    refine Ev.up ?_
    simp only [sB_Word.l0]
    refine Ev.pos (by omega) (Ev.pos (by omega) (Ev.pos (by omega) ?_))
    rw [hrd]
    refine Ev.bind hf ?_
    unfold wordV
    by_cases hc : foldV l i e (bytesOf ws[j]) = true
    · simp only [if_pos hc]
      exact Ev.now _
    · simp only [if_neg hc]
      rw [show wrap64 ((j : Int) + 1) = ((j + 1 : Nat) : Int) from wr (by omega)]
      exact byte_Word_l0 l hb i e hi hl ws hws m (j + 1) (by omega)
theorem byte_Word_is (l : List Int) (hb : Byt l) (i : Nat) (e : Option Int) (hi : i ≤ l.length) (hl : l.length ≤ 1000000) (ws : List ByteArray) (hws : ws.length ≤ 1000) :
    Ev (fun k => sB_Word.f k (strOfNums l) i e ws) ((wordV l i e ws 0).1, strOfNums l, ((wordV l i e ws 0).2.1 : Int), (wordV l i e ws 0).2.2) := byte_Word_l0 l hb i e hi hl ws hws ws.length 0 (by omega)
theorem byte_Run_l0 (l set : List Int) (hb : Byt l) (hs : Byt set) (i : Nat) (e : Option Int) (hi : i ≤ l.length) (hl : l.length ≤ 140737488351232) (m : Nat) :
    ∀ j : Nat, j + m = (leftV l i e).length → (∀ q : Nat, q < j → ∀ h : q < (leftV l i e).length, (leftV l i e)[q] ∈ set) →
    Ev (fun k => sB_Run.l0 k (strOfNums set) (strOfNums (leftV l i e)) j (strOfNums l) i e) (strOfNums ((leftV l i e).takeWhile (fun x => decide (x ∈ set))), strOfNums l, ((i + ((leftV l i e).takeWhile (fun x => decide (x ∈ set))).length : Nat) : Int), e) := by
  have ht : ∀ n : Nat, n ≤ (leftV l i e).length → Ev (fun k => sB_Run.j1 k (n : Int) (strOfNums l) (i : Int) e) (strOfNums ((leftV l i e).take n), strOfNums l, ((i + n : Nat) : Int), e) := by
    intro n h
    refine Ev.up ?_
    simp only [sB_Run.j1]
    exact Ev.bind (byte_take_is l i e n hi hl h) (Ev.now _)
  have hlen := leftV_len l i e
  have hbr := leftV_byt hb i e
  have stop : ∀ j : Nat, j ≤ (leftV l i e).length → (∀ q : Nat, q < j → ∀ h : q < (leftV l i e).length, (leftV l i e)[q] ∈ set) → (∀ h : j < (leftV l i e).length, (leftV l i e)[j] ∉ set) → ((leftV l i e).takeWhile (fun x => decide (x ∈ set))).length = j := by
    intro j hj hin hout
    generalize leftV l i e = r at *
    have e1 : r = r.take j ++ r.drop j := (List.take_append_drop j r).symm
    have hall : ∀ x ∈ r.take j, (fun x => decide (x ∈ set)) x = true := by
      intro x hx
      obtain ⟨q, hq, rfl⟩ := List.getElem_of_mem hx
      rw [List.length_take] at hq
      rw [List.getElem_take]
      exact decide_eq_true (hin q (by omega) (by omega))
    have e2 : r.takeWhile (fun x => decide (x ∈ set)) = r.take j ++ (r.drop j).takeWhile (fun x => decide (x ∈ set)) := by
      conv => lhs; rw [e1]
      exact List.takeWhile_append_of_pos hall
    have e3 : (r.drop j).takeWhile (fun x => decide (x ∈ set)) = [] := by
      by_cases h : j < r.length
      · rw [List.drop_eq_getElem_cons h, List.takeWhile_cons, if_neg (by simpa using hout h)]
      · rw [List.drop_of_length_le (by omega)]; rfl
    rw [e2, e3, List.append_nil, List.length_take]; omega
  induction m with
  | zero =>
    intro j hj hin
    have hs_ := stop j (by omega) hin (fun h => by omega)
    refine Ev.up ?_
    simp only [sB_Run.l0]
    refine Ev.neg (by rw [son_size]; omega) (Ev.cast (ht j (by omega)) ?_)
    rw [← hs_, tw_take]
  | succ m ih =>
    intro j hj hin
    have hx := bt_at_son hbr (i := j) (by omega)
    have hr := hbr _ (List.getElem_mem (l := leftV l i e) (n := j) (by omega))
    obtain ⟨t, h1, h2⟩ := smem_is set hs _ hr
    refine Ev.up ?_
    simp only [sB_Run.l0]
    rw [hx]
    refine Ev.pos (by rw [son_size]; omega) (Ev.pos (by omega) (Ev.bindc h1 (Ev.ite (fun h => ?_) (fun h => ?_))))
    · rw [show wrap64 ((j : Int) + 1) = ((j + 1 : Nat) : Int) from wr (by omega)]
      refine ih (j + 1) (by omega) ?_
      intro q hq hql
      by_cases e : q = j
      · subst e; exact h2.mp h
      · exact hin q (by omega) hql
    · have hs_ := stop j (by omega) hin (fun _ hm => h (h2.mpr hm))
      refine Ev.cast (ht j (by omega)) ?_
      rw [← hs_, tw_take]
theorem byte_Run_is (l set : List Int) (hb : Byt l) (hs : Byt set) (i : Nat) (e : Option Int) (hi : i ≤ l.length) (hl : l.length ≤ 140737488351232) :
    Ev (fun k => sB_Run.f k (strOfNums l) i e (strOfNums set)) (strOfNums ((leftV l i e).takeWhile (fun x => decide (x ∈ set))), strOfNums l, ((i + ((leftV l i e).takeWhile (fun x => decide (x ∈ set))).length : Nat) : Int), e) := by
  unfold sB_Run.f
  exact Ev.bindc (byte_rest_is l i e hi) (byte_Run_l0 l set hb hs i e hi hl (leftV l i e).length 0 (by omega) (fun q hq => by omega))
theorem byte_Until_is (l : List Int) (hb : Byt l) (i : Nat) (e : Option Int) (c : Int) (hc : 0 ≤ c ∧ c ≤ 255) (hi : i ≤ l.length) (hl : l.length ≤ 140737488351232) :
    Ev (fun k => sB_Until.f k (strOfNums l) i e c) (strOfNums ((leftV l i e).takeWhile (fun x => x != c)), strOfNums l, ((i + ((leftV l i e).takeWhile (fun x => x != c)).length : Nat) : Int), e) := by
  unfold sB_Until.f
  refine Ev.bindc (byte_rest_is l i e hi) (Ev.bindc (sidx_is _ (leftV_byt hb i e) c hc) ?_)
  simp only []
  have ht : ∀ n : Nat, n ≤ (leftV l i e).length → Ev (fun k => sB_Until.j0 k (n : Int) (strOfNums l) (i : Int) e) (strOfNums ((leftV l i e).take n), strOfNums l, ((i + n : Nat) : Int), e) := by
    intro n h
    refine Ev.up ?_
    simp only [sB_Until.j0]
    exact Ev.bind (byte_take_is l i e n hi hl h) (Ev.now _)
  have hq := tw_take (p := fun x => x != c) (leftV l i e)
  have hle := tw_len (p := fun x => x != c) (leftV l i e)
  by_cases h : ((leftV l i e).takeWhile (fun x => x != c)).length < (leftV l i e).length
  · rw [if_pos h]
    refine Ev.neg (by omega) (Ev.cast (ht _ hle) ?_)
    rw [hq]
  · rw [if_neg h]
    refine Ev.pos (by decide) ?_
    rw [son_size]
    refine Ev.cast (ht _ (Nat.le_refl _)) ?_
    have : (leftV l i e).takeWhile (fun x => x != c) = leftV l i e := (List.takeWhile_prefix _).eq_of_length_le (by omega)
    rw [List.take_of_length_le (Nat.le_refl _), this]
end Go.Proofs.Ytonjfggfcnpgbaa.MScanPlays

/- What each of the program's scanner's functions does to its box. -/
namespace Go.Proofs.Ytonjfggfcnpgbaa.MScanPlays
open Go.RowKit Go.Proofs.YtonjfggfcnpgbaaW.PrintWords Go.Proofs.YtonjfggfcnpgbaaW.PrintLast Go.Proofs.YtonjfggfcnpgbaaW.PrintMore Go.Proofs.Ytonjfggfcnpgbaa.Base
set_option linter.unusedVariables false
set_option linter.unusedSimpArgs false

theorem below_keep {w0 w w' : World} {g : Nat} (hB : Below w0.heap.size w0 w) (hB' : Below w0.heap.size w0 w') (hk : KeepBut w w' g none) (hg : w'.heap[g]? = w.heap[g]?) : Below w.heap.size w w' :=
  ⟨hB'.os.trans hB.os.symm, hB'.tape.trans hB.tape.symm, hB'.output.trans hB.output.symm, hk.1, fun k h => by
    by_cases e : k = g
    · subst e; exact hg
    · exact hk.2 k h e (by simp)⟩
section
variable {w0 w : World} {g : Nat} {l : List Int} {i : Nat} {e : Option Int}
theorem string_At_c (HI : IsS60 w0 w g (strOfNums l) i e) (hB : Below w0.heap.size w0 w) : Calls Try.prog 14 #[.pointer (some ⟨g, 0, none⟩)] w fun e' w' => e' = .returned (.int .i64 (i : Int)) ∧ Below w.heap.size w w' :=
  (sS_At.calls g _ _ _ _ _ _ _ w0 w HI hB (string_At_is _ _ _)).mono fun e' w' ⟨h1, h2, h3, h4⟩ => ⟨h1, below_keep hB h3 h4 (h2.1.trans HI.1.symm)⟩
theorem string_Err_c (HI : IsS60 w0 w g (strOfNums l) i e) (hB : Below w0.heap.size w0 w) : Calls Try.prog 15 #[.pointer (some ⟨g, 0, none⟩)] w fun e' w' => e' = .returned (errW e) ∧ Below w.heap.size w w' :=
  (sS_Err.calls g _ _ _ _ _ _ _ w0 w HI hB (string_Err_is _ _ _)).mono fun e' w' ⟨h1, h2, h3, h4⟩ => ⟨h1, below_keep hB h3 h4 (h2.1.trans HI.1.symm)⟩
theorem string_Left_c (HI : IsS60 w0 w g (strOfNums l) i e) (hB : Below w0.heap.size w0 w) (hi : i ≤ l.length) : Calls Try.prog 18 #[.pointer (some ⟨g, 0, none⟩)] w fun e' w' => e' = .returned (.int .i64 ((leftV l i e).length : Int)) ∧ Below w.heap.size w w' :=
  (sS_Left.calls g _ _ _ _ _ _ _ w0 w HI hB (string_Left_is l i e hi)).mono fun e' w' ⟨h1, h2, h3, h4⟩ => ⟨h1, below_keep hB h3 h4 (h2.1.trans HI.1.symm)⟩
theorem string_End_c (HI : IsS60 w0 w g (strOfNums l) i e) (hB : Below w0.heap.size w0 w) (hi : i ≤ l.length) : Calls Try.prog 28 #[.pointer (some ⟨g, 0, none⟩)] w fun e' w' => e' = .returned (errW (endV l i e)) ∧ Below w.heap.size w w' :=
  (sS_End.calls g _ _ _ _ _ _ _ w0 w HI hB (string_End_is l i e hi)).mono fun e' w' ⟨h1, h2, h3, h4⟩ => ⟨h1, below_keep hB h3 h4 (h2.1.trans HI.1.symm)⟩
theorem string_Peek_c (HI : IsS60 w0 w g (strOfNums l) i e) (hB : Below w0.heap.size w0 w) (hb : Byt l) (hi : i ≤ l.length) : Calls Try.prog 22 #[.pointer (some ⟨g, 0, none⟩)] w fun e' w' => e' = .returned (.tuple #[.int .u8 ((leftV l i e).headD 0), .bool (decide (leftV l i e ≠ []))]) ∧ Below w.heap.size w w' :=
  (sS_Peek.calls g _ _ _ _ _ _ _ _ w0 w HI hB (string_peek_is l hb i e hi)).mono fun e' w' ⟨h1, h2, h3, h4⟩ => ⟨h1, below_keep hB h3 h4 (h2.1.trans HI.1.symm)⟩
theorem string_Take_c (HI : IsS60 w0 w g (strOfNums l) i e) (hB : Below w0.heap.size w0 w) (hb : Byt l) (hi : i ≤ l.length) (hl : l.length ≤ 1000000) (c : Int) :
    Calls Try.prog 23 #[.pointer (some ⟨g, 0, none⟩), .int .u8 c] w fun e' w' => e' = .returned (.bool (comesV (leftV l i e) c)) ∧ IsS60 w0 w' g (strOfNums l) (if comesV (leftV l i e) c = true then ((i + 1 : Nat) : Int) else (i : Int)) e ∧ Below w0.heap.size w0 w' ∧ KeepBut w w' g none := by
  obtain ⟨k, hk⟩ := Ev.ok (string_Take_is l hb i e c hi (by omega))
  exact sS_Take.calls k g _ _ _ _ _ _ _ _ w0 w HI hB hk
theorem string_Fold_c (HI : IsS60 w0 w g (strOfNums l) i e) (hB : Below w0.heap.size w0 w) (hb : Byt l) (hi : i ≤ l.length) (hl : l.length ≤ 1000000) (s : ByteArray) :
    Calls Try.prog 24 #[.pointer (some ⟨g, 0, none⟩), .string s] w fun e' w' => e' = .returned (.bool (foldV l i e (bytesOf s))) ∧ IsS60 w0 w' g (strOfNums l) (if foldV l i e (bytesOf s) = true then ((i + (bytesOf s).length : Nat) : Int) else (i : Int)) e ∧ Below w0.heap.size w0 w' ∧ KeepBut w w' g none := by
  obtain ⟨k, hk⟩ := Ev.ok (string_Fold_is l hb i e (bytesOf s) (byt_of _) hi hl)
  rw [son_of] at hk
  exact sS_Fold.calls k g _ _ _ _ _ _ _ _ w0 w HI hB hk
theorem string_Figures_c (HI : IsS60 w0 w g (strOfNums l) i e) (hB : Below w0.heap.size w0 w) (hb : Byt l) (hi : i ≤ l.length) (hl : l.length ≤ 1000000) (a b : Int) :
    Calls Try.prog 25 #[.pointer (some ⟨g, 0, none⟩), .int .i64 a, .int .i64 b] w fun e' w' => e' = .returned (.int .i64 (sfigV l i e a b).1) ∧ IsS60 w0 w' g (strOfNums l) (sfigV l i e a b).2.1 (sfigV l i e a b).2.2 ∧ Below w0.heap.size w0 w' ∧ KeepBut w w' g none := by
  obtain ⟨k, hk⟩ := Ev.ok (string_Figures_is l hb i e a b hi (by omega))
  exact sS_Figures.calls k g _ _ _ _ _ _ _ _ _ w0 w HI hB hk
theorem string_Must_c (HI : IsS60 w0 w g (strOfNums l) i e) (hB : Below w0.heap.size w0 w) (hb : Byt l) (hi : i ≤ l.length) (hl : l.length ≤ 1000000) (s : ByteArray) :
    Calls Try.prog 19 #[.pointer (some ⟨g, 0, none⟩), .string s] w fun e' w' => e' = .returned (.tuple #[]) ∧ IsS60 w0 w' g (strOfNums l) (if foldV l i e (bytesOf s) = true then ((i + (bytesOf s).length : Nat) : Int) else (i : Int)) (if foldV l i e (bytesOf s) = true then e else if e.isNone = true then some 2 else e) ∧ Below w0.heap.size w0 w' ∧ KeepBut w w' g none := by
  obtain ⟨k, hk⟩ := Ev.ok (string_Must_is l hb i e (bytesOf s) (byt_of _) hi hl)
  rw [son_of] at hk
  exact sS_Must.calls k g _ _ _ _ _ _ _ w0 w HI hB hk
theorem string_Skip_c (HI : IsS60 w0 w g (strOfNums l) i e) (hB : Below w0.heap.size w0 w) (hi : i ≤ l.length) (hl : l.length ≤ 1000000) (m : Int) :
    Calls Try.prog 20 #[.pointer (some ⟨g, 0, none⟩), .int .i64 m] w fun e' w' => e' = .returned (.tuple #[]) ∧ IsS60 w0 w' g (strOfNums l) ((skipV l i e m).1 : Int) (skipV l i e m).2 ∧ Below w0.heap.size w0 w' ∧ KeepBut w w' g none := by
  obtain ⟨k, hk⟩ := Ev.ok (string_Skip_is l i e m hi hl)
  exact sS_Skip.calls k g _ _ _ _ _ _ _ w0 w HI hB hk
theorem string_Word_c (HI : IsS60 w0 w g (strOfNums l) i e) (hB : Below w0.heap.size w0 w) (hb : Byt l) (hi : i ≤ l.length) (hl : l.length ≤ 1000000) (A : Option Addr) (c : Nat) (ws : List ByteArray) (hws : ws.length ≤ 1000) (hC : Kd.C Kd.string w A ws.length ws) (hc : ws.length ≤ c) (hoff : ∀ ad, A = some ad → 0 < ws.length → ad.block ≠ g) :
    Calls Try.prog 26 #[.pointer (some ⟨g, 0, none⟩), .slice A ws.length c] w fun e' w' => e' = .returned (.int .i64 (wordV l i e ws 0).1) ∧ IsS60 w0 w' g (strOfNums l) ((wordV l i e ws 0).2.1 : Int) (wordV l i e ws 0).2.2 ∧ Below w0.heap.size w0 w' ∧ KeepBut w w' g none := by
  obtain ⟨k, hk⟩ := Ev.ok (string_Word_is l hb i e hi hl ws hws)
  exact sS_Word.calls k g _ _ _ A c ws _ _ _ _ w0 w HI hB hC hc hoff hk
theorem string_Run_c (HI : IsS60 w0 w g (strOfNums l) i e) (hB : Below w0.heap.size w0 w) (hb : Byt l) (hi : i ≤ l.length) (hl : l.length ≤ 1000000) (s : ByteArray) :
    Calls Try.prog 16 #[.pointer (some ⟨g, 0, none⟩), .string s] w fun e' w' => e' = .returned (.string (strOfNums ((leftV l i e).takeWhile (fun x => decide (x ∈ bytesOf s))))) ∧ IsS60 w0 w' g (strOfNums l) ((i + ((leftV l i e).takeWhile (fun x => decide (x ∈ bytesOf s))).length : Nat) : Int) e ∧ Below w0.heap.size w0 w' ∧ KeepBut w w' g none := by
  obtain ⟨k, hk⟩ := Ev.ok (string_Run_is l (bytesOf s) hb (byt_of _) i e hi (by omega))
  rw [son_of] at hk
  exact sS_Run.calls k g _ _ _ _ _ _ _ _ w0 w HI hB hk
theorem string_Until_c (HI : IsS60 w0 w g (strOfNums l) i e) (hB : Below w0.heap.size w0 w) (hb : Byt l) (hi : i ≤ l.length) (hl : l.length ≤ 1000000) (c : Int) (hc : 0 ≤ c ∧ c ≤ 255) :
    Calls Try.prog 17 #[.pointer (some ⟨g, 0, none⟩), .int .u8 c] w fun e' w' => e' = .returned (.string (strOfNums ((leftV l i e).takeWhile (fun x => x != c)))) ∧ IsS60 w0 w' g (strOfNums l) ((i + ((leftV l i e).takeWhile (fun x => x != c)).length : Nat) : Int) e ∧ Below w0.heap.size w0 w' ∧ KeepBut w w' g none := by
  obtain ⟨k, hk⟩ := Ev.ok (string_Until_is l hb i e c hc hi (by omega))
  exact sS_Until.calls k g _ _ _ _ _ _ _ _ w0 w HI hB hk
theorem string_Fail_c (HI : IsS60 w0 w g (strOfNums l) i e) (hB : Below w0.heap.size w0 w) (c : Int) :
    Calls Try.prog 21 #[.pointer (some ⟨g, 0, none⟩), errW (some c)] w fun e' w' => e' = .returned (.tuple #[]) ∧ IsS60 w0 w' g (strOfNums l) (i : Int) (if e.isNone = true then some c else e) ∧ Below w0.heap.size w0 w' ∧ KeepBut w w' g none :=
  sS_Fail.calls g _ _ _ _ _ _ _ w0 w HI hB (string_Fail_is _ _ _ c)
end
end Go.Proofs.Ytonjfggfcnpgbaa.MScanPlays

/- What each of the program's scanner of bytes' functions does to its box. -/
namespace Go.Proofs.Ytonjfggfcnpgbaa.MScanPlays
open Go.RowKit Go.Proofs.YtonjfggfcnpgbaaW.PrintWords Go.Proofs.YtonjfggfcnpgbaaW.PrintLast Go.Proofs.YtonjfggfcnpgbaaW.PrintMore Go.Proofs.Ytonjfggfcnpgbaa.Base
set_option linter.unusedVariables false
set_option linter.unusedSimpArgs false

section
variable {w0 w : World} {g : Nat} {l : List Int} {i : Nat} {e : Option Int}
theorem byte_At_c (HI : IsS61 w0 w g (strOfNums l) i e) (hB : Below w0.heap.size w0 w) : Calls Try.prog 63 #[.pointer (some ⟨g, 0, none⟩)] w fun e' w' => e' = .returned (.int .i64 (i : Int)) ∧ Below w.heap.size w w' :=
  (sB_At.calls g _ _ _ _ _ _ _ w0 w HI hB (byte_At_is _ _ _)).mono fun e' w' ⟨h1, h2, h3, h4⟩ => ⟨h1, below_keep hB h3 h4 (h2.1.trans HI.1.symm)⟩
theorem byte_Err_c (HI : IsS61 w0 w g (strOfNums l) i e) (hB : Below w0.heap.size w0 w) : Calls Try.prog 64 #[.pointer (some ⟨g, 0, none⟩)] w fun e' w' => e' = .returned (errW e) ∧ Below w.heap.size w w' :=
  (sB_Err.calls g _ _ _ _ _ _ _ w0 w HI hB (byte_Err_is _ _ _)).mono fun e' w' ⟨h1, h2, h3, h4⟩ => ⟨h1, below_keep hB h3 h4 (h2.1.trans HI.1.symm)⟩
theorem byte_Left_c (HI : IsS61 w0 w g (strOfNums l) i e) (hB : Below w0.heap.size w0 w) (hi : i ≤ l.length) : Calls Try.prog 62 #[.pointer (some ⟨g, 0, none⟩)] w fun e' w' => e' = .returned (.int .i64 ((leftV l i e).length : Int)) ∧ Below w.heap.size w w' :=
  (sB_Left.calls g _ _ _ _ _ _ _ w0 w HI hB (byte_Left_is l i e hi)).mono fun e' w' ⟨h1, h2, h3, h4⟩ => ⟨h1, below_keep hB h3 h4 (h2.1.trans HI.1.symm)⟩
theorem byte_End_c (HI : IsS61 w0 w g (strOfNums l) i e) (hB : Below w0.heap.size w0 w) (hi : i ≤ l.length) : Calls Try.prog 65 #[.pointer (some ⟨g, 0, none⟩)] w fun e' w' => e' = .returned (errW (endV l i e)) ∧ Below w.heap.size w w' :=
  (sB_End.calls g _ _ _ _ _ _ _ w0 w HI hB (byte_End_is l i e hi)).mono fun e' w' ⟨h1, h2, h3, h4⟩ => ⟨h1, below_keep hB h3 h4 (h2.1.trans HI.1.symm)⟩
theorem byte_Peek_c (HI : IsS61 w0 w g (strOfNums l) i e) (hB : Below w0.heap.size w0 w) (hb : Byt l) (hi : i ≤ l.length) : Calls Try.prog 58 #[.pointer (some ⟨g, 0, none⟩)] w fun e' w' => e' = .returned (.tuple #[.int .u8 ((leftV l i e).headD 0), .bool (decide (leftV l i e ≠ []))]) ∧ Below w.heap.size w w' :=
  (sB_Peek.calls g _ _ _ _ _ _ _ _ w0 w HI hB (byte_peek_is l hb i e hi)).mono fun e' w' ⟨h1, h2, h3, h4⟩ => ⟨h1, below_keep hB h3 h4 (h2.1.trans HI.1.symm)⟩
theorem byte_Take_c (HI : IsS61 w0 w g (strOfNums l) i e) (hB : Below w0.heap.size w0 w) (hb : Byt l) (hi : i ≤ l.length) (hl : l.length ≤ 1000000) (c : Int) :
    Calls Try.prog 40 #[.pointer (some ⟨g, 0, none⟩), .int .u8 c] w fun e' w' => e' = .returned (.bool (comesV (leftV l i e) c)) ∧ IsS61 w0 w' g (strOfNums l) (if comesV (leftV l i e) c = true then ((i + 1 : Nat) : Int) else (i : Int)) e ∧ Below w0.heap.size w0 w' ∧ KeepBut w w' g none := by
  obtain ⟨k, hk⟩ := Ev.ok (byte_Take_is l hb i e c hi (by omega))
  exact sB_Take.calls k g _ _ _ _ _ _ _ _ w0 w HI hB hk
theorem byte_Fold_c (HI : IsS61 w0 w g (strOfNums l) i e) (hB : Below w0.heap.size w0 w) (hb : Byt l) (hi : i ≤ l.length) (hl : l.length ≤ 1000000) (s : ByteArray) :
    Calls Try.prog 41 #[.pointer (some ⟨g, 0, none⟩), .string s] w fun e' w' => e' = .returned (.bool (foldV l i e (bytesOf s))) ∧ IsS61 w0 w' g (strOfNums l) (if foldV l i e (bytesOf s) = true then ((i + (bytesOf s).length : Nat) : Int) else (i : Int)) e ∧ Below w0.heap.size w0 w' ∧ KeepBut w w' g none := by
  obtain ⟨k, hk⟩ := Ev.ok (byte_Fold_is l hb i e (bytesOf s) (byt_of _) hi hl)
  rw [son_of] at hk
  exact sB_Fold.calls k g _ _ _ _ _ _ _ _ w0 w HI hB hk
theorem byte_Figures_c (HI : IsS61 w0 w g (strOfNums l) i e) (hB : Below w0.heap.size w0 w) (hb : Byt l) (hi : i ≤ l.length) (hl : l.length ≤ 1000000) (a b : Int) :
    Calls Try.prog 44 #[.pointer (some ⟨g, 0, none⟩), .int .i64 a, .int .i64 b] w fun e' w' => e' = .returned (.int .i64 (sfigV l i e a b).1) ∧ IsS61 w0 w' g (strOfNums l) (sfigV l i e a b).2.1 (sfigV l i e a b).2.2 ∧ Below w0.heap.size w0 w' ∧ KeepBut w w' g none := by
  obtain ⟨k, hk⟩ := Ev.ok (byte_Figures_is l hb i e a b hi (by omega))
  exact sB_Figures.calls k g _ _ _ _ _ _ _ _ _ w0 w HI hB hk
theorem byte_Must_c (HI : IsS61 w0 w g (strOfNums l) i e) (hB : Below w0.heap.size w0 w) (hb : Byt l) (hi : i ≤ l.length) (hl : l.length ≤ 1000000) (s : ByteArray) :
    Calls Try.prog 45 #[.pointer (some ⟨g, 0, none⟩), .string s] w fun e' w' => e' = .returned (.tuple #[]) ∧ IsS61 w0 w' g (strOfNums l) (if foldV l i e (bytesOf s) = true then ((i + (bytesOf s).length : Nat) : Int) else (i : Int)) (if foldV l i e (bytesOf s) = true then e else if e.isNone = true then some 2 else e) ∧ Below w0.heap.size w0 w' ∧ KeepBut w w' g none := by
  obtain ⟨k, hk⟩ := Ev.ok (byte_Must_is l hb i e (bytesOf s) (byt_of _) hi hl)
  rw [son_of] at hk
  exact sB_Must.calls k g _ _ _ _ _ _ _ w0 w HI hB hk
theorem byte_Skip_c (HI : IsS61 w0 w g (strOfNums l) i e) (hB : Below w0.heap.size w0 w) (hi : i ≤ l.length) (hl : l.length ≤ 1000000) (m : Int) :
    Calls Try.prog 47 #[.pointer (some ⟨g, 0, none⟩), .int .i64 m] w fun e' w' => e' = .returned (.tuple #[]) ∧ IsS61 w0 w' g (strOfNums l) ((skipV l i e m).1 : Int) (skipV l i e m).2 ∧ Below w0.heap.size w0 w' ∧ KeepBut w w' g none := by
  obtain ⟨k, hk⟩ := Ev.ok (byte_Skip_is l i e m hi hl)
  exact sB_Skip.calls k g _ _ _ _ _ _ _ w0 w HI hB hk
theorem byte_Word_c (HI : IsS61 w0 w g (strOfNums l) i e) (hB : Below w0.heap.size w0 w) (hb : Byt l) (hi : i ≤ l.length) (hl : l.length ≤ 1000000) (A : Option Addr) (c : Nat) (ws : List ByteArray) (hws : ws.length ≤ 1000) (hC : Kd.C Kd.string w A ws.length ws) (hc : ws.length ≤ c) (hoff : ∀ ad, A = some ad → 0 < ws.length → ad.block ≠ g) :
    Calls Try.prog 46 #[.pointer (some ⟨g, 0, none⟩), .slice A ws.length c] w fun e' w' => e' = .returned (.int .i64 (wordV l i e ws 0).1) ∧ IsS61 w0 w' g (strOfNums l) ((wordV l i e ws 0).2.1 : Int) (wordV l i e ws 0).2.2 ∧ Below w0.heap.size w0 w' ∧ KeepBut w w' g none := by
  obtain ⟨k, hk⟩ := Ev.ok (byte_Word_is l hb i e hi hl ws hws)
  exact sB_Word.calls k g _ _ _ A c ws _ _ _ _ w0 w HI hB hC hc hoff hk
theorem byte_Run_c (HI : IsS61 w0 w g (strOfNums l) i e) (hB : Below w0.heap.size w0 w) (hb : Byt l) (hi : i ≤ l.length) (hl : l.length ≤ 1000000) (s : ByteArray) :
    Calls Try.prog 42 #[.pointer (some ⟨g, 0, none⟩), .string s] w fun e' w' => e' = .returned (.string (strOfNums ((leftV l i e).takeWhile (fun x => decide (x ∈ bytesOf s))))) ∧ IsS61 w0 w' g (strOfNums l) ((i + ((leftV l i e).takeWhile (fun x => decide (x ∈ bytesOf s))).length : Nat) : Int) e ∧ Below w0.heap.size w0 w' ∧ KeepBut w w' g none := by
  obtain ⟨k, hk⟩ := Ev.ok (byte_Run_is l (bytesOf s) hb (byt_of _) i e hi (by omega))
  rw [son_of] at hk
  exact sB_Run.calls k g _ _ _ _ _ _ _ _ w0 w HI hB hk
theorem byte_Until_c (HI : IsS61 w0 w g (strOfNums l) i e) (hB : Below w0.heap.size w0 w) (hb : Byt l) (hi : i ≤ l.length) (hl : l.length ≤ 1000000) (c : Int) (hc : 0 ≤ c ∧ c ≤ 255) :
    Calls Try.prog 43 #[.pointer (some ⟨g, 0, none⟩), .int .u8 c] w fun e' w' => e' = .returned (.string (strOfNums ((leftV l i e).takeWhile (fun x => x != c)))) ∧ IsS61 w0 w' g (strOfNums l) ((i + ((leftV l i e).takeWhile (fun x => x != c)).length : Nat) : Int) e ∧ Below w0.heap.size w0 w' ∧ KeepBut w w' g none := by
  obtain ⟨k, hk⟩ := Ev.ok (byte_Until_is l hb i e c hc hi (by omega))
  exact sB_Until.calls k g _ _ _ _ _ _ _ _ w0 w HI hB hk
theorem byte_Fail_c (HI : IsS61 w0 w g (strOfNums l) i e) (hB : Below w0.heap.size w0 w) (c : Int) :
    Calls Try.prog 48 #[.pointer (some ⟨g, 0, none⟩), errW (some c)] w fun e' w' => e' = .returned (.tuple #[]) ∧ IsS61 w0 w' g (strOfNums l) (i : Int) (if e.isNone = true then some c else e) ∧ Below w0.heap.size w0 w' ∧ KeepBut w w' g none :=
  sB_Fail.calls g _ _ _ _ _ _ _ w0 w HI hB (byte_Fail_is _ _ _ c)
end
end Go.Proofs.Ytonjfggfcnpgbaa.MScanPlays

/-
  A region whose order is open, by an invariant over what is done: the user's own, proved once an operation.
-/
namespace Go.Proofs.Ytonjfggfcnpgbaa
open Go.RowKit Go.Proofs.YtonjfggfcnpgbaaW.PrintWords Go.Proofs.YtonjfggfcnpgbaaW.PrintLast

section
variable {P : Program} {ops : Array Oper} {Q : Exit → Act → World → Prop} {md : Region.Mode}
def upd (dn : Nat → Bool) (i : Nat) : Nat → Bool := fun j => bif j == i then true else dn j
def OpsInv (P : Program) (md : Region.Mode) (ops : Array Oper) (Q : Exit → Act → World → Prop) (T : (Nat → Value) → Act) (I : (Nat → Bool) → (Nat → Value) → World → Prop) (l : List Nat) : Prop :=
  ∀ i ∈ l, ∀ o, ops[i]? = some o → ∀ (dn : Nat → Bool) (X : Nat → Value) (w : World), dn i = false → (∀ f j, Region.reachB md ops j f i = true → dn j = true) → I dn X w →
    ∀ K : Act → World → Prop, Shut (∀ a' v w', a' = (T X).put o.dst v → I (upd dn i) (up X i v) w' → K a' w') →
      if Region.wanted o (yielded ops (T X).tmps) = true then Oper.wp P o (T X) w K Q else K ((T X).put o.dst undef) w
theorem OpsInv.nil {T : (Nat → Value) → Act} {I : (Nat → Bool) → (Nat → Value) → World → Prop} : OpsInv P md ops Q T I [] := fun _ h => by cases h
theorem OpsInv.cons {T : (Nat → Value) → Act} {I : (Nat → Bool) → (Nat → Value) → World → Prop} {i : Nat} {o : Oper} {r : List Nat} (N : Option Tmp) (ho : ops[i]? = some o) (hN : o.dst = N)
    (h : ∀ (dn : Nat → Bool) (X : Nat → Value) (w : World), dn i = false → (∀ f j, Region.reachB md ops j f i = true → dn j = true) → I dn X w →
      ∀ K : Act → World → Prop, Shut (∀ a' v w', a' = (T X).put N v → I (upd dn i) (up X i v) w' → K a' w') →
        if Region.wanted o (yielded ops (T X).tmps) = true then Oper.wp P o (T X) w K Q else K ((T X).put N undef) w)
    (hr : OpsInv P md ops Q T I r) : OpsInv P md ops Q T I (i :: r) := fun j hj => by
  rcases List.mem_cons.1 hj with rfl | hj
  · intro o' ho'
    have : o' = o := Option.some.inj (ho'.symm.trans ho)
    subst this
    subst hN
    exact h
  · exact hr j hj
theorem region_inv {id : Nat} (ds : List (Option Nat)) {a : Act} {w0 : World} {T : (Nat → Value) → Act} (hT : ∀ X, fill ds 0 X a = T X) (I : (Nat → Bool) → (Nat → Value) → World → Prop) (hm : P.follows .mixedOrders = true) (hchk : regB .any ops ds = true) (hlen : ds.length = ops.size)
    (l : List Nat) (hl : List.range ds.length = l) (hops : OpsInv P .any ops Q T I l) (h0 : I (fun _ => false) (had ds a) w0.drew)
    (hend : ∀ (dn : Nat → Bool) (X : Nat → Value) (w : World), (∀ j, j < ds.length → dn j = true) → I dn X w → Q .normal (T X) w) :
    (Code.region id ops true).wp P Q a w0 := by
  refine wp_region_any hm ?_
  subst hl
  simp only [regB, Bool.and_eq_true, decide_eq_true_eq, List.all_eq_true, List.mem_range, beq_iff_eq, Bool.or_eq_true] at hchk
  obtain ⟨⟨⟨⟨_, hdst⟩, hap⟩, hdeps⟩, _⟩ := hchk
  have main : ∀ (m : Nat) (listed : Array Bool) (X : Nat → Value) (w : World), listed.size = ops.size → ListedClosed .any ops listed →
      I (fun j => listed.getD j false) X w → (List.range ds.length).countP (fun j => !listed.getD j true) = m → wpAny P .any ops Q m listed (fill ds 0 X a) w := by
    intro m
    induction m with
    | zero =>
      intro listed X w hsz hcl hI hc
      have hall : ∀ j, j < ds.length → listed.getD j true = true := by
        intro j hj
        have := List.countP_eq_zero.1 hc j (List.mem_range.2 hj)
        simpa using this
      rw [hT]
      refine tail_done (by
        rw [beq_iff_eq]
        refine List.eq_nil_iff_forall_not_mem.2 (fun i hi => ?_)
        obtain ⟨hiun, o, ho, _⟩ := mem_ready.1 hi
        have hio : i < ops.size := (Array.getElem?_eq_some_iff.1 ho).1
        rw [hall i (by omega)] at hiun
        cases hiun) (hend _ X w (fun j hj => ?_) hI)
      have h1 := hall j hj
      have h2 : j < listed.size := by omega
      simp [h2] at h1 ⊢
      exact h1
    | succ m ih =>
      intro listed X w hsz hcl hI hc
      have hex : ∃ j, j < ds.length ∧ listed.getD j true = false := by
        have : 0 < (List.range ds.length).countP (fun j => !listed.getD j true) := by omega
        obtain ⟨j, hj, hp⟩ := List.countP_pos_iff.1 this
        exact ⟨j, List.mem_range.1 hj, by simpa using hp⟩
      refine ⟨fun hnil => ?_, fun i hi => ?_⟩
      · exfalso
        have least : ∀ (k : Nat), ∀ j, j < k → j < ds.length → listed.getD j true = true := by
          intro k
          induction k with
          | zero => intro j hj; omega
          | succ k ihk =>
            intro j hj hjl
            rcases Nat.lt_or_ge j k with h | h
            · exact ihk j h hjl
            · obtain rfl : j = k := by omega
              cases hb : listed.getD j true with
              | true => rfl
              | false =>
                exfalso
                have hmem : j ∈ Region.ready .any ops listed := by
                  rw [mem_ready]
                  have hjo : j < ops.size := by omega
                  refine ⟨hb, ops[j], by simp [hjo], fun e he hbd => ?_⟩
                  have hd := hdeps j hjl
                  rw [Array.getElem?_eq_getElem hjo] at hd
                  have hd' := Array.all_eq_true_iff_forall_mem.1 hd e he
                  simp only [hbd, Bool.not_true, Bool.false_or, decide_eq_true_eq] at hd'
                  have h1 := ihk e.on hd' (by omega)
                  have h2 : e.on < listed.size := by omega
                  simp [h2] at h1 ⊢
                  exact h1
                rw [hnil] at hmem
                cases hmem
        obtain ⟨j, hj, hf⟩ := hex
        rw [least (j + 1) j (by omega) hj] at hf
        cases hf
      · obtain ⟨hiun, o, ho, hall⟩ := mem_ready.1 hi
        have hio : i < ops.size := (Array.getElem?_eq_some_iff.1 ho).1
        have hin : i < ds.length := by omega
        have hdi : ds[i]? = some o.dst := by
          have := hdst i hin
          rw [ho] at this
          exact this.symm
        refine wpOp_step ho (fun K hK => ?_)
        rw [hT]
        refine hops i (List.mem_range.2 hin) o ho _ X w ?_ (fun f j hf => ?_) hI K (fun a' v w' ha' hIv => hK _ _ ?_)
        · have hs : i < listed.size := by omega
          simp [hs] at hiun ⊢
          exact hiun
        · show listed.getD j false = true
          cases hb : listed.getD j true with
          | false => exact absurd hi (Region.reach_not_ready hcl hf hb)
          | true =>
            rcases Nat.lt_or_ge j listed.size with h | h
            · simp [h] at hb ⊢; exact hb
            · exfalso
              have : listed.getD j false = true := by
                cases f with
                | zero => simp [Region.reachB] at hf
                | succ n =>
                  unfold Region.reachB at hf
                  rw [ho] at hf
                  obtain ⟨e, he, h1⟩ := Array.any_eq_true'.1 hf
                  simp only [Bool.and_eq_true, Bool.or_eq_true, beq_iff_eq] at h1
                  have hle := hall e he h1.1
                  rcases h1.2 with h2 | h2
                  · rw [← h2]; exact hle
                  · exact Region.reach_listed hcl n e.on h2 hle
              simp [Array.getElem?_eq_none h] at this
        · subst ha'
          rw [← hT]
          have hup := fill_up ds 0 X a i o.dst v hap (Nat.zero_le _) (by simpa using hdi)
          rw [← hup]
          refine ih (listed.setIfInBounds i true) (up X i v) w' (by simp [hsz]) (hcl.set hi) ?_ ?_
          · have he : (fun j => (listed.setIfInBounds i true).getD j false) = upd (fun j => listed.getD j false) i := by
              funext j
              unfold upd
              by_cases hji : j = i
              · subst hji
                have hs : j < listed.size := by omega
                simp [hs]
              · rw [getD_set_ne false (Ne.symm hji), beq_eq_false_iff_ne.2 hji]
                rfl
            rw [he]
            exact hIv
          · have := countP_drop (p := fun j => !listed.getD j true) (q := fun j => !(listed.setIfInBounds i true).getD j true) i (by rw [hiun]; rfl)
              (by have hs : i < listed.size := by omega
                  simp [hs]) (fun j hj => by rw [getD_set_ne true (Ne.symm hj)]) (List.range ds.length) List.nodup_range (List.mem_range.2 hin)
            omega
  have h1 := main ((List.range ds.length).countP (fun j => !(Array.replicate ops.size false).getD j true)) (Array.replicate ops.size false) (had ds a) w0.drew (by simp)
    (fun j oj _ hl => by rw [getD_rep_false] at hl; cases hl) (by
      have he : (fun j => (Array.replicate ops.size false).getD j false) = fun _ => false := by
        funext j
        rcases Nat.lt_or_ge j ops.size with h | h
        · simp [h]
        · simp [h]
      rw [he]
      exact h0) rfl
  rw [fill_had ds 0 (had ds a) a (fun j d hj => by rw [Nat.zero_add]; unfold had; rw [hj])] at h1
  have hc : (List.range ds.length).countP (fun j => !(Array.replicate ops.size false).getD j true) = ds.length := by
    rw [List.countP_eq_length.2 (fun j hj => ?_), List.length_range]
    have hj' := List.mem_range.1 hj
    have : j < ops.size := by omega
    simp [this]
  rw [hc, hlen] at h1
  exact h1
end
end Go.Proofs.Ytonjfggfcnpgbaa

/- What stands while an act on a scanner runs: the scanner's box, the document's, the act's own boxes. -/
namespace Go.Proofs.Ytonjfggfcnpgbaa.MScanPlays
open Go.RowKit Go.Proofs.YtonjfggfcnpgbaaW.PrintWords Go.Proofs.YtonjfggfcnpgbaaW.PrintLast Go.Proofs.YtonjfggfcnpgbaaW.PrintMore Go.Proofs.Ytonjfggfcnpgbaa.Base
set_option linter.unusedVariables false
set_option linter.unusedSimpArgs false

def Halted (p : Prop) := p
theorem halt_ {p : Prop} (h : Halted p) : p := h
theorem setRow_ne (w : World) (g k : Nat) (cs : Array Value) (h : k ≠ g) : (w.setRow g cs).heap[k]? = w.heap[k]? := by
  simp [World.setRow, Array.getElem?_modify, Ne.symm h]
theorem setRow_row (w : World) (g : Nat) (cs cs' : Array Value) : (w.setRow g cs).setRow g cs' = w.setRow g cs' := by
  unfold World.setRow
  congr 1
  apply Array.ext
  · simp
  · intro k h1 h2
    simp only [Array.getElem_modify]
    split <;> rename_i hk
    · generalize w.heap[k]'(by simpa using h2) = o
      cases o <;> rfl
    · rfl
theorem set3 {w : World} {b : Nat} {a0 a1 a2 u0 u1 u2 : Value} {t : TypeId} {fr : Nat × Nat} (h : w.heap[b]? = some (.cells #[a0, a1, a2] t fr)) : ((w.setCell ⟨b, 0, none⟩ u0).setCell ⟨b, 1, none⟩ u1).setCell ⟨b, 2, none⟩ u2 = w.setRow b #[u0, u1, u2] := by
  rw [setCell_eq_setRow w b 0 _ _ _ _ h]
  have h1 := setRow_heap w b _ (#[a0, a1, a2].setIfInBounds 0 u0) _ _ h
  rw [setCell_eq_setRow _ b 1 _ _ _ _ h1, setRow_row]
  have h2 := setRow_heap w b _ ((#[a0, a1, a2].setIfInBounds 0 u0).setIfInBounds 1 u1) _ _ h
  rw [setCell_eq_setRow _ b 2 _ _ _ _ h2, setRow_row]
  rfl
theorem one3 (a : ByteArray) (k k' : IntKind) (b c : Int) : (#[Value.string a, .int k b, .int k' c] : Array Value).all (·.oneCell') = true := by simp [Value.oneCell']
def BoxS (T : TypeId) (w0 W : World) (g : Nat) (l : List Int) (i : Int) (e : Option Int) : Prop := W.heap[g]? = some (.cells #[.string (strOfNums l), .int .i64 i, errW e] T (0, 0)) ∧ w0.heap.size ≤ g
def R3 (t : ByteArray) (j q : Int) : Array Value := #[.string t, .int .i64 j, .int .i64 q]
def C6 (kind B : Int) (wd : ByteArray) (A : Option Addr) (n c : Nat) (least most : Int) : Array Value := #[.int .i64 kind, .int .u8 B, .string wd, .slice A n c, .int .i64 least, .int .i64 most]
def Z3 : Array Value := #[.string ⟨#[]⟩, .int .i64 0, .int .i64 0]
theorem r3_0 {W : World} {b : Nat} {t : ByteArray} {j q : Int} (h : W.heap[b]? = some (.cells (R3 t j q) 31 (0, 0))) : W.cell? ⟨b, 0, none⟩ = some (.string t) := (blk_cell h 0).trans rfl
theorem r3_1 {W : World} {b : Nat} {t : ByteArray} {j q : Int} (h : W.heap[b]? = some (.cells (R3 t j q) 31 (0, 0))) : W.cell? ⟨b, 1, none⟩ = some (.int .i64 j) := (blk_cell h 1).trans rfl
theorem r3_2 {W : World} {b : Nat} {t : ByteArray} {j q : Int} (h : W.heap[b]? = some (.cells (R3 t j q) 31 (0, 0))) : W.cell? ⟨b, 2, none⟩ = some (.int .i64 q) := (blk_cell h 2).trans rfl
theorem c6_0 {W : World} {b : Nat} {kind B : Int} {wd : ByteArray} {A : Option Addr} {n c : Nat} {least most : Int} (h : W.heap[b]? = some (.cells (C6 kind B wd A n c least most) 35 (0, 0))) : W.cell? ⟨b, 0, none⟩ = some (.int .i64 kind) := (blk_cell h 0).trans rfl
theorem c6_1 {W : World} {b : Nat} {kind B : Int} {wd : ByteArray} {A : Option Addr} {n c : Nat} {least most : Int} (h : W.heap[b]? = some (.cells (C6 kind B wd A n c least most) 35 (0, 0))) : W.cell? ⟨b, 1, none⟩ = some (.int .u8 B) := (blk_cell h 1).trans rfl
theorem c6_2 {W : World} {b : Nat} {kind B : Int} {wd : ByteArray} {A : Option Addr} {n c : Nat} {least most : Int} (h : W.heap[b]? = some (.cells (C6 kind B wd A n c least most) 35 (0, 0))) : W.cell? ⟨b, 2, none⟩ = some (.string wd) := (blk_cell h 2).trans rfl
theorem c6_3 {W : World} {b : Nat} {kind B : Int} {wd : ByteArray} {A : Option Addr} {n c : Nat} {least most : Int} (h : W.heap[b]? = some (.cells (C6 kind B wd A n c least most) 35 (0, 0))) : W.cell? ⟨b, 3, none⟩ = some (.slice A n c) := (blk_cell h 3).trans rfl
theorem c6_4 {W : World} {b : Nat} {kind B : Int} {wd : ByteArray} {A : Option Addr} {n c : Nat} {least most : Int} (h : W.heap[b]? = some (.cells (C6 kind B wd A n c least most) 35 (0, 0))) : W.cell? ⟨b, 4, none⟩ = some (.int .i64 least) := (blk_cell h 4).trans rfl
theorem c6_5 {W : World} {b : Nat} {kind B : Int} {wd : ByteArray} {A : Option Addr} {n c : Nat} {least most : Int} (h : W.heap[b]? = some (.cells (C6 kind B wd A n c least most) 35 (0, 0))) : W.cell? ⟨b, 5, none⟩ = some (.int .i64 most) := (blk_cell h 5).trans rfl
/-- What a function of the document's answers, and of the program's. -/
def RefC (w : World) (g f : Nat) (m : Value) (xs : List Value) (r : Value) : Prop := ∀ W, KeepBut w W g none → Calls Try.prog f (m :: xs).toArray W fun e_ w' => e_ = .returned r ∧ Below W.heap.size W w'
def ScanC (T : TypeId) (w0 w : World) (g : Nat) (l : List Int) (i : Int) (e : Option Int) (i' : Int) (e' : Option Int) (f : Nat) (xs : List Value) (r : Value) : Prop := ∀ W, KeepBut w W g none → BoxS T w0 W g l i e → Below w0.heap.size w0 W →
    Calls Try.prog f (.pointer (some ⟨g, 0, none⟩) :: xs).toArray W fun e_ w' => e_ = .returned r ∧ BoxS T w0 w' g l i' e' ∧ Below w0.heap.size w0 w' ∧ KeepBut W w' g none
structure AE (T : TypeId) (w0 w : World) (g b4 b5 b6 : Nat) (c5 : Array Value) (l : List Int) (i : Int) (e : Option Int) (v4 v6 : Array Value) (W : World) : Prop where
  is : BoxS T w0 W g l i e
  bel : Below w0.heap.size w0 W
  e4 : W.heap[b4]? = some (.cells v4 31 (0, 0))
  e5 : W.heap[b5]? = some (.cells c5 35 (0, 0))
  e6 : W.heap[b6]? = some (.cells v6 31 (0, 0))
  kp : KeepBut w W g none
  gl : g < w.heap.size
  o4 : w.heap.size ≤ b4
  o5 : w.heap.size ≤ b5
  o6 : w.heap.size ≤ b6
  n45 : b4 ≠ b5
  n46 : b4 ≠ b6
  n56 : b5 ≠ b6
section
variable {T : TypeId} {w0 w W W' : World} {g b4 b5 b6 : Nat} {c5 : Array Value} {l : List Int} {i i' : Int} {e e' : Option Int} {v4 v6 : Array Value}
theorem AE.below (E : AE T w0 w g b4 b5 b6 c5 l i e v4 v6 W) (hb : Below W.heap.size W W') : AE T w0 w g b4 b5 b6 c5 l i e v4 v6 W' :=
  ⟨⟨blk_below E.is.1 hb, E.is.2⟩, below_step E.bel hb, blk_below E.e4 hb, blk_below E.e5 hb, blk_below E.e6 hb, E.kp.trans (KeepBut.of_below hb g none) (.inl rfl), E.gl, E.o4, E.o5, E.o6, E.n45, E.n46, E.n56⟩
theorem AE.call (E : AE T w0 w g b4 b5 b6 c5 l i e v4 v6 W) (hi : BoxS T w0 W' g l i' e') (hB : Below w0.heap.size w0 W') (hk : KeepBut W W' g none) : AE T w0 w g b4 b5 b6 c5 l i' e' v4 v6 W' := by
  have h1 := E.gl; have h2 := E.o4; have h3 := E.o5; have h4 := E.o6
  exact ⟨hi, hB, hk.blk E.e4 (by omega) (by simp), hk.blk E.e5 (by omega) (by simp), hk.blk E.e6 (by omega) (by simp), E.kp.trans hk (.inl rfl), E.gl, E.o4, E.o5, E.o6, E.n45, E.n46, E.n56⟩
theorem AE.keepSet (E : AE T w0 w g b4 b5 b6 c5 l i e v4 v6 W) (b : Nat) (hb : w.heap.size ≤ b) (cs : Array Value) : KeepBut w (W.setRow b cs) g none :=
  ⟨by simpa using E.kp.1, fun k hk hg hr => (setRow_ne _ _ _ _ (by omega)).trans (E.kp.2 k hk hg hr)⟩
theorem AE.belSet (E : AE T w0 w g b4 b5 b6 c5 l i e v4 v6 W) (b : Nat) (hb : w.heap.size ≤ b) (cs : Array Value) : Below w0.heap.size w0 (W.setRow b cs) := by
  have h1 := E.gl; have h2 := E.is.2
  exact ⟨E.bel.os, E.bel.tape, E.bel.output, by simpa using E.bel.size, fun k hk => (setRow_ne _ _ _ _ (by omega)).trans (E.bel.block k hk)⟩
theorem AE.set4 (E : AE T w0 w g b4 b5 b6 c5 l i e v4 v6 W) (cs : Array Value) : AE T w0 w g b4 b5 b6 c5 l i e cs v6 (W.setRow b4 cs) := by
  have h1 := E.gl; have h2 := E.o4
  exact ⟨⟨(setRow_ne _ _ _ _ (by omega)).trans E.is.1, E.is.2⟩, E.belSet _ E.o4 cs, setRow_heap _ _ _ _ _ _ E.e4, (setRow_ne _ _ _ _ E.n45.symm).trans E.e5, (setRow_ne _ _ _ _ E.n46.symm).trans E.e6, E.keepSet _ E.o4 cs, E.gl, E.o4, E.o5, E.o6, E.n45, E.n46, E.n56⟩
theorem AE.set6 (E : AE T w0 w g b4 b5 b6 c5 l i e v4 v6 W) (cs : Array Value) : AE T w0 w g b4 b5 b6 c5 l i e v4 cs (W.setRow b6 cs) := by
  have h1 := E.gl; have h2 := E.o6
  exact ⟨⟨(setRow_ne _ _ _ _ (by omega)).trans E.is.1, E.is.2⟩, E.belSet _ E.o6 cs, (setRow_ne _ _ _ _ E.n46).trans E.e4, (setRow_ne _ _ _ _ E.n56).trans E.e5, setRow_heap _ _ _ _ _ _ E.e6, E.keepSet _ E.o6 cs, E.gl, E.o4, E.o5, E.o6, E.n45, E.n46, E.n56⟩
/-- A store into a box that is new since. -/
theorem AE.setx (E : AE T w0 w g b4 b5 b6 c5 l i e v4 v6 W) {W1 : World} (hb1 : Below W.heap.size W W1) (b : Nat) (hb : b = W.heap.size) (cs : Array Value) : AE T w0 w g b4 b5 b6 c5 l i e v4 v6 (W1.setRow b cs) := by
  have h1 := E.gl
  have h2 := E.kp.1
  have h3 := blk_lt E.e4
  have h4 := blk_lt E.e5
  have h5 := blk_lt E.e6
  have h6 := blk_lt E.is.1
  have F := E.below hb1
  exact ⟨⟨(setRow_ne _ _ _ _ (by omega)).trans F.is.1, E.is.2⟩, F.belSet _ (by omega) cs, (setRow_ne _ _ _ _ (by omega)).trans F.e4, (setRow_ne _ _ _ _ (by omega)).trans F.e5, (setRow_ne _ _ _ _ (by omega)).trans F.e6, F.keepSet _ (by omega) cs, E.gl, E.o4, E.o5, E.o6, E.n45, E.n46, E.n56⟩
theorem ae_start (hi : BoxS T w0 w g l i e) (hB : Below w0.heap.size w0 w) (v4 c5 v6 : Array Value) :
    AE T w0 w g w.heap.size (w.heap.size + 1) (w.heap.size + 1 + 1) c5 l i e v4 v6 (((w.alloc (.cells v4 31)).alloc (.cells c5 35)).alloc (.cells v6 31)) := by
  generalize h4 : (Obj.cells v4 31) = o4
  generalize h5 : (Obj.cells c5 35) = o5
  generalize h6 : (Obj.cells v6 31) = o6
  have s4 : (w.alloc o4).heap.size = w.heap.size + 1 := World.size_alloc _ _
  have s5 : ((w.alloc o4).alloc o5).heap.size = w.heap.size + 1 + 1 := by rw [World.size_alloc, s4]
  have bb : ∀ (W : World) (o : Obj), Below W.heap.size W (W.alloc o) := fun W o => below_alloc (Below.refl _ _) o
  have ball : Below w.heap.size w (((w.alloc o4).alloc o5).alloc o6) := below_alloc (below_alloc (bb _ _) _) _
  refine ⟨⟨blk_below hi.1 ball, hi.2⟩, below_step hB ball, ?_, ?_, ?_, KeepBut.of_below ball g none, blk_lt hi.1, by omega, by omega, by omega, by omega, by omega, by omega⟩
  · have h := blk_below (blk_below (blk_new w o4) (bb _ o5)) (bb _ o6)
    rw [h, ← h4]
  · have h := blk_below (blk_new (w.alloc o4) o5) (bb _ o6)
    rw [s4] at h
    rw [h, ← h5]
  · have h := blk_new ((w.alloc o4).alloc o5) o6
    rw [s5] at h
    rw [h, ← h6]
/-- A row of texts stays where only another box is written. -/
theorem C_keep {A : Option Addr} {n : Nat} {ws : List ByteArray} (h : Kd.C Kd.string w A n ws) (hk : KeepBut w W g none) (ho : ∀ ad, A = some ad → 0 < n → ad.block ≠ g) : Kd.C Kd.string W A n ws := by
  obtain ⟨h1, h2, h3⟩ := h
  refine ⟨h1, h2, fun hp => ?_⟩
  obtain ⟨ad, e, hcell⟩ := h3 hp
  refine ⟨ad, e, fun j p hj => ?_⟩
  obtain ⟨cc, q1, q2, q3⟩ := hcell j p hj
  refine ⟨cc, q1, q2, fun i u hu => ?_⟩
  have h4 := q3 i u hu
  have h5 := hk.2 (ad.add (j * Kd.string.sz + i)).block (World.block_lt_of_cell? _ _ h4) (by have q_ := ho ad e hp; unfold Addr.add; split <;> exact q_) (by simp)
  simpa [World.cell?, h5] using h4
end
end Go.Proofs.Ytonjfggfcnpgbaa.MScanPlays

/- The document's Run and Until: bytes that are in a row, bytes up to one. -/
namespace Go.Proofs.Ytonjfggfcnpgbaa.MScanPlays
open Go.RowKit Go.Proofs.YtonjfggfcnpgbaaW.PrintWords Go.Proofs.YtonjfggfcnpgbaaW.PrintLast Go.Proofs.YtonjfggfcnpgbaaW.PrintMore Go.Proofs.Ytonjfggfcnpgbaa.Base
set_option linter.unusedVariables false
set_option linter.unusedSimpArgs false

theorem rRun_l1 (w : List Int) (hw : Byt w) (hwl : w.length ≤ 1000000) (x6 L : ByteArray) (hx : x6.size ≤ 1000000) (b i q : Int) (r : ByteArray × ByteArray × Int × Int)
    (h1 : b ∈ w → Ev (fun k => r4_Run.l0 k (strOfNums w) (x6 ++ strOfNums [b]) L (wrap64 (i + 1)) q) r) (h2 : b ∉ w → r = (x6, L, i, q)) : ∀ (m j : Nat), j + m = w.length →
    Ev (fun k => r4_Run.l1 k (strOfNums w) x6 b (decide (b ∈ w.take j)) (j : Int) L i q) r
  | 0, j, h => by
    refine Ev.up ?_
    simp only [r4_Run.l1, son_size]
    rw [List.take_of_length_le (show w.length ≤ j by omega)]
    refine Ev.neg (by omega) ?_
    by_cases hm : b ∈ w
    · refine Ev.pos (by simpa using hm) ?_
      refine Ev.bindc rfl ?_
      refine Ev.pos ?_ (h1 hm)
      show x6.size + [b].length ≤ 9223372036854775807
      simp only [List.length_cons, List.length_nil]; omega
    · exact Ev.neg (by simpa using hm) (Ev.cast (Ev.now _) (h2 hm).symm)
  | m + 1, j, h => by
    have hj : j < w.length := by omega
    have ht : w.take (j + 1) = w.take j ++ [w[j]] := by rw [List.take_succ_eq_append_getElem hj]
    have hn : wrap64 ((j : Int) + 1) = ((j + 1 : Nat) : Int) := wr (by omega)
    have ih := rRun_l1 w hw hwl x6 L hx b i q r h1 h2 m (j + 1) (by omega)
    refine Ev.up ?_
    simp only [r4_Run.l1, son_size]
    refine Ev.pos (by omega) ?_
    by_cases hm : b ∈ w.take j
    · refine Ev.pos (by simpa using hm) ?_
      rw [hn]
      rw [show decide (b ∈ w.take (j + 1)) = true from decide_eq_true (by rw [ht]; exact List.mem_append_left _ hm)] at ih
      exact ih
    · refine Ev.neg (by simpa using hm) (Ev.pos (by omega) ?_)
      rw [hn, bt_at_son hw hj]
      rw [show decide (b ∈ w.take (j + 1)) = (w[j] == b) by
        rw [ht, Bool.eq_iff_iff]; simp only [decide_eq_true_eq, List.mem_append, List.mem_singleton, hm, false_or, beq_iff_eq]; first | done | exact eq_comm | exact Iff.rfl] at ih
      exact ih
theorem rRun_l0 (l w : List Int) (hb : Byt l) (hw : Byt w) (hl : l.length ≤ 1000000) (hwl : w.length ≤ 1000000) : ∀ (m i : Nat) (o : List Int), i + m = l.length → o.length ≤ i →
    Ev (fun k => r4_Run.l0 k (strOfNums w) (strOfNums o) (strOfNums l) (i : Int) 0) (strOfNums (o ++ (l.drop i).takeWhile (fun x => decide (x ∈ w))), strOfNums l, ((i + ((l.drop i).takeWhile (fun x => decide (x ∈ w))).length : Nat) : Int), 0)
  | 0, i, o, h, ho => by
    have hd : l.drop i = [] := List.drop_eq_nil_of_le (by omega)
    refine Ev.up ?_
    simp only [r4_Run.l0]
    refine Ev.bindc (rRest_is l i none (by intro h; cases h) (by omega)) ?_
    simp only [leftV_none, hd, son_size]
    exact Ev.neg (by simp) (Ev.cast (Ev.now _) (by simp))
  | m + 1, i, o, h, ho => by
    have hi : i < l.length := by omega
    have hd : l.drop i = l[i] :: l.drop (i + 1) := List.drop_eq_getElem_cons hi
    refine Ev.up ?_
    simp only [r4_Run.l0]
    refine Ev.bindc (rRest_is l i none (by intro h; cases h) (by omega)) ?_
    rw [leftV_none]
    refine Ev.pos zq87 (Ev.bindc (rRest_is l i none (by intro h; cases h) (by omega)) ?_)
    rw [leftV_none]
    refine Ev.pos zq87 ?_
    have hx : bt (strOfNums (l.drop i)) 0 = l[i] := by
      have := bt_at_son (hb.drop i) (i := 0) (by rw [List.length_drop]; omega)
      rw [List.getElem_drop] at this; exact this
    rw [hx]
    have hz : (decide (l[i] ∈ w.take 0)) = false := by simp
    have hn : wrap64 ((i : Int) + 1) = ((i + 1 : Nat) : Int) := wr (by omega)
    have := rRun_l1 w hw hwl (strOfNums o) (strOfNums l) (by rw [son_size]; omega) l[i] i 0 (strOfNums (o ++ (l.drop i).takeWhile (fun x => decide (x ∈ w))), strOfNums l, ((i + ((l.drop i).takeWhile (fun x => decide (x ∈ w))).length : Nat) : Int), 0) ?_ ?_ w.length 0 (by omega)
    · rw [hz] at this
      exact this
    · intro hm
      rw [hn, son_append]
      have ih := rRun_l0 l w hb hw hl hwl m (i + 1) (o ++ [l[i]]) (by omega) (by simp; omega)
      refine Ev.cast ih ?_
      rw [hd, List.takeWhile_cons_of_pos (by simpa using hm)]
      simp only [List.append_assoc, List.singleton_append, List.length_cons]
      rw [show i + 1 + ((l.drop (i + 1)).takeWhile (fun x => decide (x ∈ w))).length = i + (((l.drop (i + 1)).takeWhile (fun x => decide (x ∈ w))).length + 1) by omega]
    · intro hm
      rw [hd, List.takeWhile_cons_of_neg (by simpa using hm)]
      simp
theorem rRun_is (l : List Int) (hb : Byt l) (i : Nat) (e : Option Int) (w : List Int) (hw : Byt w) (he : EOK e) (hi : i ≤ l.length) (hl : l.length ≤ 1000000) (hwl : w.length ≤ 1000000) :
    Ev (fun k => r4_Run.f k (strOfNums l) i (en e) (strOfNums w)) (strOfNums ((leftV l i e).takeWhile (fun x => decide (x ∈ w))), strOfNums l, ((i + ((leftV l i e).takeWhile (fun x => decide (x ∈ w))).length : Nat) : Int), en e) := by
  unfold r4_Run.f
  cases e with
  | none => exact rRun_l0 l w hb hw hl hwl (l.length - i) i [] (by omega) (by simp)
  | some c =>
    refine Ev.up ?_
    simp only [r4_Run.l0]
    refine Ev.bindc (rRest_is l i (some c) he hi) ?_
    simp only [leftV_some, son_size]
    exact Ev.neg (by simp) (Ev.cast (Ev.now _) (by simp; rfl))
theorem rUntil_l0 (l : List Int) (b : Int) (hb : Byt l) (hl : l.length ≤ 1000000) : ∀ (m i : Nat) (o : List Int), i + m = l.length → o.length ≤ i →
    Ev (fun k => r4_Until.l0 k b (strOfNums o) (strOfNums l) (i : Int) 0) (strOfNums (o ++ (l.drop i).takeWhile (fun x => x != b)), strOfNums l, ((i + ((l.drop i).takeWhile (fun x => x != b)).length : Nat) : Int), 0)
  | 0, i, o, h, ho => by
    have hd : l.drop i = [] := List.drop_eq_nil_of_le (by omega)
    refine Ev.up ?_
    simp only [r4_Until.l0]
    refine Ev.bindc (rRest_is l i none (by intro h; cases h) (by omega)) ?_
    simp only [leftV_none, hd, son_size]
    exact Ev.neg (by simp) (Ev.cast (Ev.now _) (by simp))
  | m + 1, i, o, h, ho => by
    have hi : i < l.length := by omega
    have hd : l.drop i = l[i] :: l.drop (i + 1) := List.drop_eq_getElem_cons hi
    have hr := rRest_is l i none (by intro h; cases h) (by omega)
    rw [leftV_none] at hr
    refine Ev.up ?_
    simp only [r4_Until.l0]
    refine Ev.bindc hr (Ev.pos zq87 (Ev.bindc hr (Ev.pos zq87 ?_)))
    have hx : bt (strOfNums (l.drop i)) 0 = l[i] := by
      have := bt_at_son (hb.drop i) (i := 0) (by rw [List.length_drop]; omega)
      rw [List.getElem_drop] at this; exact this
    rw [hx]
    have hn : wrap64 ((i : Int) + 1) = ((i + 1 : Nat) : Int) := wr (by omega)
    by_cases hc : l[i] = b
    · refine Ev.pos hc (Ev.cast (Ev.now _) ?_)
      rw [hd, List.takeWhile_cons_of_neg (by simpa using hc)]
      simp
    · refine Ev.neg hc (Ev.bindc hr (Ev.pos (by omega) (Ev.pos zq87 ?_)))
      rw [son_first, show (l.drop i).take 1 = [l[i]] by rw [hd]; rfl, hn, son_append]
      refine Ev.pos (by rw [son_size, son_size]; simp only [List.length_singleton]; omega) ?_
      have ih := rUntil_l0 l b hb hl m (i + 1) (o ++ [l[i]]) (by omega) (by simp; omega)
      refine Ev.cast ih ?_
      rw [hd, List.takeWhile_cons_of_pos (by simpa using hc)]
      simp only [List.append_assoc, List.singleton_append, List.length_cons]
      rw [show i + 1 + ((l.drop (i + 1)).takeWhile (fun x => x != b)).length = i + (((l.drop (i + 1)).takeWhile (fun x => x != b)).length + 1) by omega]
theorem rUntil_is (l : List Int) (hb : Byt l) (i : Nat) (e : Option Int) (b : Int) (he : EOK e) (hi : i ≤ l.length) (hl : l.length ≤ 1000000) :
    Ev (fun k => r4_Until.f k (strOfNums l) i (en e) b) (strOfNums ((leftV l i e).takeWhile (fun x => x != b)), strOfNums l, ((i + ((leftV l i e).takeWhile (fun x => x != b)).length : Nat) : Int), en e) := by
  unfold r4_Until.f
  cases e with
  | none => exact rUntil_l0 l b hb hl (l.length - i) i [] (by omega) (by simp)
  | some c =>
    refine Ev.up ?_
    simp only [r4_Until.l0]
    refine Ev.bindc (rRest_is l i (some c) he hi) ?_
    simp only [leftV_some, son_size]
    exact Ev.neg (by simp) (Ev.cast (Ev.now _) (by simp; rfl))
end Go.Proofs.Ytonjfggfcnpgbaa.MScanPlays

