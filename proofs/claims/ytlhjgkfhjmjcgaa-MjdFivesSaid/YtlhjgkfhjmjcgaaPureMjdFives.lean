/- MjdFives: the five figures of any days, and which texts are such figures, are the document's. For every input of Go's kinds; no further condition (of texts longer than 100 the statement says nothing). -/
import Derived.Test.YtlhjgkfhjmjcgaaTMjdFivesBig3
import Derived.Test.YtlhjgkfhjmjcgaaCalBase
import Derived.Test.YtlhjgkfhjmjcgaaFigBase
namespace Go.Proofs.Ytlhjgkfhjmjcgaa.MMjdFives
open Go.RowKit Go.Proofs.YtlhjgkfhjmjcgaaW.PrintWords Go.Proofs.YtlhjgkfhjmjcgaaW.PrintLast Go.Proofs.YtlhjgkfhjmjcgaaW.PrintMore Go.Proofs.Ytlhjgkfhjmjcgaa.Base
set_option linter.unusedVariables false
set_option linter.unusedSimpArgs false

theorem num_is (e : Option Int) : horologenum_Num.f e = some (match e with | none => 0 | some c => if c = 0 then -1 else c) := by
  unfold horologenum_Num.f
  cases e <;> simp
  split <;> rfl
theorem rleap_is (y : Int) : horologeref05_Leap.f y = some (decide (lp y = 1)) := by
  have t4 : Int.tmod y 4 = 0 ↔ y % 4 = 0 := by rw [tmod_is]; split <;> omega
  have t100 : Int.tmod y 100 = 0 ↔ y % 100 = 0 := by rw [tmod_is]; split <;> omega
  have t400 : Int.tmod y 400 = 0 ↔ y % 400 = 0 := by rw [tmod_is]; split <;> omega
  have b100 : (Int.tmod y 100 != 0) = !decide (y % 100 = 0) := by rw [← decide_eq_decide.mpr t100]; rfl
  unfold horologeref05_Leap.f lp
  simp only [t4, t400, b100]
  by_cases p400 : y % 400 = 0
  · have p4 : y % 4 = 0 := by omega
    simp [p4, p400]
  · by_cases p4 : y % 4 = 0 <;> by_cases p100 : y % 100 = 0 <;> simp [p4, p100, p400]
theorem rdays_is (y : Int) : horologeref05_Days.f y = some (365 + lp y) := by
  unfold horologeref05_Days.f
  have l := lp_01 y
  rw [rleap_is]
  simp only [Option.bind_some]
  by_cases h : lp y = 1
  · rw [if_pos (decide_eq_true h), h]; rfl
  · rw [if_neg (by rw [decide_eq_false h]; decide), show lp y = 0 by omega]; rfl
theorem rmonth_is (y m : Int) (h1 : 1 ≤ m) (h2 : m ≤ 12) : horologeref05_Month.f y m = some (ml y m) := by
  unfold horologeref05_Month.f
  simp only [Option.bind_some, rleap_is]
  have l := lp_01 y
  have w : wrap64 (m - 1) = m - 1 := wr (by omega)
  have hr : m ≠ 2 ∨ lp y = 0 → rd [31, 28, 31, 30, 31, 30, 31, 31, 30, 31, 30, 31] (m - 1) = ml y m := by
    intro h
    unfold ml
    have := m12 h1 h2
    rcases this with e | e | e | e | e | e | e | e | e | e | e | e <;> subst e
    all_goals first
      | (rw [if_neg (by decide)]; decide)
      | (rw [if_pos (by decide), h.resolve_left (by decide)]; decide)
  rw [w]
  by_cases h : m = 2
  · rw [if_pos h]
    by_cases q : lp y = 1
    · rw [if_pos (decide_eq_true q)]
      unfold ml
      rw [if_pos h, q]; rfl
    · rw [if_neg (by rw [decide_eq_false q]; decide), if_pos (by omega), if_pos (by simp; omega), hr (by omega)]
  · rw [if_neg h, if_pos (by omega), if_pos (by simp; omega), hr (by omega)]
theorem rstart_l2 (y n : Int) (hn : -100000000 ≤ n ∧ n ≤ 100000000) (m : Nat) : ∀ x : Int, 1970 ≤ x → x + m = y → y ≤ 2400 → Ev (fun k => horologeref05_Start.l2 k y (n + S x) x) (n + S y) := by
  induction m with
  | zero =>
    intro x h1 h2 h3
    refine Ev.up ?_
    simp only [horologeref05_Start.l2]
    rw [show x = y by omega]
    exact Ev.neg (by omega) (Ev.now _)
  | succ m ih =>
    intro x h1 h2 h3
    have l := lp_01 x
    have s := S_succ x
    have b1 := S_mono h1
    have b2 := S_mono (show x ≤ 2400 by omega)
    have e1 : S 2400 = 157054 := by decide
    have e0 := S_1970
    refine Ev.up ?_
    simp only [horologeref05_Start.l2, rdays_is, Option.bind_some]
    rw [wr (n := x + 1) (by omega), wr (n := n + S x + (365 + lp x)) (by omega)]
    have := ih (x + 1) (by omega) (by omega) h3
    rw [s] at this
    refine Ev.pos (by omega) ?_
    rw [show n + S x + (365 + lp x) = n + (S x + 365 + lp x) by omega]
    exact this
theorem rstart_l1 (m : Nat) : ∀ y n : Int, 1970 ≤ y → y < 2370 + 400 * m → m ≤ 80 → -50000000 ≤ n → n ≤ 50000000 - 146097 * m → Ev (fun k => horologeref05_Start.l1 k y n) (n + S y) := by
  induction m with
  | zero =>
    intro y n h1 h2 h3 h4 h5
    refine Ev.up ?_
    simp only [horologeref05_Start.l1]
    refine Ev.neg (by omega) ?_
    have := rstart_l2 y n (by omega) (y - 1970).toNat 1970 (by decide) (by omega) (by omega)
    rw [S_1970, Int.add_zero] at this
    exact this
  | succ m ih =>
    intro y n h1 h2 h3 h4 h5
    by_cases h : y ≥ 2370
    · refine Ev.up ?_
      simp only [horologeref05_Start.l1]
      refine Ev.pos h ?_
      rw [wr (n := y - 400) (by omega), wr (n := n + 146097) (by omega)]
      have := ih (y - 400) (n + 146097) (by omega) (by omega) (by omega) (by omega) (by omega)
      have e := S_400 (y - 400)
      rw [show y - 400 + 400 = y by omega] at e
      rw [show n + S y = n + 146097 + S (y - 400) by omega]
      exact this
    · exact ih y n h1 (by omega) (by omega) h4 (by omega)
theorem rstart_l0 (m : Nat) : ∀ y n : Int, 1970 - 400 * m ≤ y → y ≤ 30000 → m ≤ 80 → -50000000 + 146097 * m ≤ n → n ≤ 30000000 → Ev (fun k => horologeref05_Start.l0 k y n) (n + S y) := by
  induction m with
  | zero =>
    intro y n h1 h2 h3 h4 h5
    refine Ev.up ?_
    simp only [horologeref05_Start.l0]
    exact Ev.neg (by omega) (rstart_l1 80 y n (by omega) (by omega) (by omega) (by omega) (by omega))
  | succ m ih =>
    intro y n h1 h2 h3 h4 h5
    by_cases h : y < 1970
    · refine Ev.up ?_
      simp only [horologeref05_Start.l0]
      refine Ev.pos h ?_
      rw [wr (n := y + 400) (by omega), wr (n := n - 146097) (by omega)]
      have := ih (y + 400) (n - 146097) (by omega) (by omega) (by omega) (by omega) (by omega)
      rw [S_400] at this
      rw [show n + S y = n - 146097 + (S y + 146097) by omega]
      exact this
    · exact ih y n (by omega) h2 (by omega) (by omega) h5
theorem rstart_is (y : Int) (h1 : -30000 ≤ y) (h2 : y ≤ 30000) : Ev (fun k => horologeref05_Start.f k y) (S y) := by
  have := rstart_l0 80 y 0 (by omega) h2 (by omega) (by omega) (by omega)
  rw [Int.zero_add] at this
  exact this
theorem rev_l0 (l : List Int) (hn : l.length ≤ 1000000) (m : Nat) : ∀ (x : List Int) (i : Nat), x.length = l.length → 2 * i + m ≥ l.length → 2 * i ≤ l.length + 1 →
    (∀ t : Nat, t < l.length → rd x t = if t < i ∨ l.length - 1 - i < t then rd l ((l.length - 1 - t : Nat) : Int) else rd l t) →
      Ev (fun k => slices_Reverse_byte_byte.l0 k x i ((l.length : Int) - 1 - i)) l.reverse := by
  induction m with
  | zero =>
    intro x i hl hm h2 h
    refine Ev.up ?_
    simp only [slices_Reverse_byte_byte.l0]
    refine Ev.neg (by omega) ?_
    rw [← rev_of hl (fun t ht => ?_)]
    · exact Ev.now _
    · rw [h t ht]
      by_cases q : t < i ∨ l.length - 1 - i < t
      · rw [if_pos q]
      · rw [if_neg q, show l.length - 1 - t = t by omega]
  | succ m ih =>
    intro x i hl hm h2 h
    by_cases hgo : 2 * i + 1 < l.length
    · have ej : (l.length : Int) - 1 - i = ((l.length - 1 - i : Nat) : Int) := by omega
      refine Ev.up ?_
      simp only [slices_Reverse_byte_byte.l0, ej]
      refine Ev.pos (by omega) (Ev.pos (by omega) (Ev.pos (by omega) (Ev.pos (by omega) (Ev.pos (by omega) ?_))))
      rw [wr (n := (i : Int) + 1) (by omega), wr (n := ((l.length - 1 - i : Nat) : Int) - 1) (by omega)]
      have := ih ((x.set (i : Int).toNat (rd x ((l.length - 1 - i : Nat) : Int))).set ((l.length - 1 - i : Nat) : Int).toNat (rd x i)) (i + 1) (by simp [hl]) (by omega) (by omega) (by
        intro t ht
        simp only [Int.toNat_natCast]
        rw [rd_set _ _ _ (by simp; omega), rd_set _ _ _ (by omega)]
        by_cases t1 : t = l.length - 1 - i
        · rw [if_pos t1, if_pos (by omega), h i (by omega), if_neg (by omega), show l.length - 1 - t = i by omega]
        · rw [if_neg t1]
          by_cases t2 : t = i
          · rw [if_pos t2, if_pos (by omega), h _ (by omega), if_neg (by omega), t2]
          · rw [if_neg t2, h t ht]
            by_cases t3 : t < i ∨ l.length - 1 - i < t
            · rw [if_pos t3, if_pos (by omega)]
            · rw [if_neg t3, if_neg (by omega)])
      rw [show (l.length : Int) - 1 - ((i + 1 : Nat) : Int) = ((l.length - 1 - i : Nat) : Int) - 1 by omega] at this
      exact this
    · exact (by
        refine Ev.up ?_
        simp only [slices_Reverse_byte_byte.l0]
        refine Ev.neg (by omega) ?_
        rw [← rev_of hl (fun t ht => ?_)]
        · exact Ev.now _
        · rw [h t ht]
          by_cases q : t < i ∨ l.length - 1 - i < t
          · rw [if_pos q]
          · rw [if_neg q, show l.length - 1 - t = t by omega])
theorem rev_is (l : List Int) (hn : l.length ≤ 1000000) : Ev (fun k => slices_Reverse_byte_byte.f k l) l.reverse := by
  unfold slices_Reverse_byte_byte.f
  rw [wr (by omega)]
  have := rev_l0 l hn l.length l 0 rfl (by omega) (by omega) (fun t ht => by rw [if_neg (by omega)])
  simpa using this
theorem raw_pad (w : Int) (hw : 0 ≤ w ∧ w ≤ 1000) (m : Nat) : ∀ out : List Int, out.length ≤ 1000 → (max w.toNat 1 - out.length) ≤ m → Ev (fun k => figures_raw.l0 k 0 w out) (strOfNums ((out ++ List.replicate (max w.toNat 1 - out.length) 48).reverse)) := by
  have hx : mx w 1 = ((max w.toNat 1 : Nat) : Int) := by unfold mx; split <;> omega
  induction m with
  | zero =>
    intro out ho hm
    refine Ev.up ?_
    simp only [figures_raw.l0, hx]
    refine Ev.neg (by omega) (Ev.neg (by omega) (Ev.bind (rev_is out (by omega)) ?_))
    rw [show max w.toNat 1 - out.length = 0 by omega, List.replicate_zero, List.append_nil]
    exact Ev.now _
  | succ m ih =>
    intro out ho hm
    by_cases h : out.length < max w.toNat 1
    · refine Ev.up ?_
      simp only [figures_raw.l0, hx]
      have w1 : IntKind.u64.wrap (Int.tdiv 0 10) = 0 := by decide
      have w2 : (48 + Int.tmod 0 10) % 256 = 48 := by decide
      rw [w1, w2]
      refine Ev.neg (by omega) (Ev.pos (by omega) (Ev.pos (by omega) ?_))
      have := ih (out ++ [48]) (by simp; omega) (by simp; omega)
      rw [snoc_rep, show max w.toNat 1 - (out ++ [(48 : Int)]).length + 1 = max w.toNat 1 - out.length by simp; omega] at this
      exact this
    · exact ih out ho (by omega)
theorem raw_l0 (w : Int) (hw : 0 ≤ w ∧ w ≤ 100) (n : Nat) : ∀ out : List Int, n < 18446744073709551616 → out.length + (digs n).length ≤ 200 →
    Ev (fun k => figures_raw.l0 k (n : Int) w out) (strOfNums ((out ++ digs n ++ List.replicate (max w.toNat 1 - (out ++ digs n).length) 48).reverse)) := by
  induction n using Nat.strongRecOn with
  | ind n ih =>
    intro out hn ho
    by_cases h : n = 0
    · subst h
      rw [digs_zero, List.append_nil]
      exact raw_pad w (by omega) _ out (by omega) (Nat.le_refl _)
    · have e := digs_pos (show 0 < n by omega)
      refine Ev.up ?_
      simp only [figures_raw.l0]
      refine Ev.pos (by omega) (Ev.pos (by omega) ?_)
      have w1 : IntKind.u64.wrap (Int.tdiv (n : Int) 10) = ((n / 10 : Nat) : Int) := by rw [tdiv_is, if_neg (by omega), wrap_u64]; omega
      have w2 : (48 + Int.tmod (n : Int) 10) % 256 = 48 + (n : Int) % 10 := by rw [tmod_is, if_neg (by omega)]; omega
      rw [w1, w2]
      have := ih (n / 10) (by omega) (out ++ [48 + (n : Int) % 10]) (by omega) (by rw [e] at ho; simp at ho ⊢; omega)
      rw [show out ++ [48 + (n : Int) % 10] ++ digs (n / 10) = out ++ digs n by rw [e]; simp] at this
      exact this
theorem raw_is (n : Nat) (w : Int) (hn : n < 18446744073709551616) (hw : 0 ≤ w ∧ w ≤ 100) : Ev (fun k => figures_raw.f k (n : Int) w) (strOfNums (rawV n w.toNat)) := by
  have l := digs_len n 20 (by omega)
  have := raw_l0 w hw n [] hn (by simp; omega)
  rw [List.nil_append, List.reverse_append, List.reverse_replicate] at this
  exact this
/-- The text of a number with its sign. -/
def putV (n : Int) (w : Nat) : List Int := if n < 0 then 45 :: rawV (-n).toNat w else rawV n.toNat w
theorem put_is (n w : Int) (hn : I64 n) (hw : 0 ≤ w ∧ w ≤ 20) : Ev (fun k => figures_Put.f k n w) (strOfNums (putV n w.toNat), none) := by
  unfold I64 at hn
  unfold figures_Put.f
  refine Ev.neg (by omega) ?_
  rw [decide_eq_false (by omega)]
  refine Ev.up ?_
  simp only [figures_Put.j0, Bool.false_eq_true, if_false]
  unfold putV
  refine Ev.ite (fun h => ?_) (fun h => ?_)
  · rw [if_pos h, show IntKind.u64.wrap (-IntKind.u64.wrap n) = (((-n).toNat : Nat) : Int) by rw [wrap_u64, wrap_u64]; omega]
    refine Ev.bind (raw_is (-n).toNat w (by omega) (by omega)) (Ev.pos ?_ ?_)
    · rw [son_size, rawV_len]
      have := digs_len (-n).toNat 20 (by omega)
      omega
    · rw [show (⟨#[45]⟩ : ByteArray) = strOfNums [45] from rfl, son_append]
      exact Ev.now _
  · rw [if_neg h, show IntKind.u64.wrap n = ((n.toNat : Nat) : Int) by rw [wrap_u64]; omega]
    exact Ev.bind (raw_is n.toNat w (by omega) (by omega)) (Ev.now _)
theorem rraw_l1 (w : Int) (hw : 0 ≤ w ∧ w ≤ 1000) (m : Nat) : ∀ s : List Int, s.length ≤ 1000 → (max w.toNat 1 - s.length) ≤ m → Ev (fun k => horologeref02_Raw.l1 k w (strOfNums s)) (strOfNums (List.replicate (max w.toNat 1 - s.length) 48 ++ s)) := by
  induction m with
  | zero =>
    intro s hs hm
    refine Ev.up ?_
    simp only [horologeref02_Raw.l1, son_size]
    rw [show max w.toNat 1 - s.length = 0 by omega, List.replicate_zero, List.nil_append]
    exact Ev.neg (by omega) (Ev.neg (by omega) (Ev.now _))
  | succ m ih =>
    intro s hs hm
    by_cases h : s.length < max w.toNat 1
    · refine Ev.up ?_
      simp only [horologeref02_Raw.l1, son_size, show (⟨#[48]⟩ : ByteArray) = strOfNums [48] from rfl, son_append]
      have := ih ([48] ++ s) (by simp; omega) (by simp; omega)
      have e : List.replicate (max w.toNat 1 - ([48] ++ s).length) (48 : Int) ++ ([48] ++ s) = List.replicate (max w.toNat 1 - s.length) 48 ++ s := by
        rw [← List.append_assoc]
        congr 1
        rw [show max w.toNat 1 - s.length = (max w.toNat 1 - ([48] ++ s).length) + 1 by simp; omega, List.replicate_succ']
      rw [e] at this
      exact Ev.ite (fun _ => Ev.pos (by omega) this) (fun q => Ev.pos (by omega) (Ev.pos (by omega) this))
    · exact ih s hs (by omega)
theorem rraw_l0 (w : Int) (hw : 0 ≤ w ∧ w ≤ 100) (n : Nat) : ∀ s : List Int, n < 9223372036854775808 → s.length + (digs n).length ≤ 200 →
    Ev (fun k => horologeref02_Raw.l0 k (n : Int) w (strOfNums s)) (strOfNums (List.replicate (max w.toNat 1 - ((digs n).reverse ++ s).length) 48 ++ ((digs n).reverse ++ s))) := by
  induction n using Nat.strongRecOn with
  | ind n ih =>
    intro s hn hs
    by_cases h : n = 0
    · subst h
      rw [digs_zero]
      refine Ev.up ?_
      simp only [horologeref02_Raw.l0]
      refine Ev.neg (by omega) ?_
      exact rraw_l1 w (by omega) _ s (by omega) (Nat.le_refl _)
    · have e := digs_pos (show 0 < n by omega)
      have w1 : wrap64 (Int.tdiv (n : Int) 10) = ((n / 10 : Nat) : Int) := by rw [tdiv_is, if_neg (by omega), wr (by omega)]; omega
      have w2 : (wrap64 (48 + Int.tmod (n : Int) 10)) % 256 = 48 + (n : Int) % 10 := by rw [tmod_is, if_neg (by omega), wr (by omega)]; omega
      refine Ev.up ?_
      simp only [horologeref02_Raw.l0, Option.bind_some, w1, w2, son_size, son_append]
      refine Ev.pos (by omega) (Ev.pos (by simp; omega) ?_)
      have := ih (n / 10) (by omega) ([48 + (n : Int) % 10] ++ s) (by omega) (by rw [e] at hs; simp at hs ⊢; omega)
      rw [show (digs (n / 10)).reverse ++ ([48 + (n : Int) % 10] ++ s) = (digs n).reverse ++ s by rw [e]; simp] at this
      exact this
theorem rraw_is (n : Nat) (w : Int) (hn : n < 9223372036854775808) (hw : 0 ≤ w ∧ w ≤ 100) : Ev (fun k => horologeref02_Raw.f k (n : Int) w) (strOfNums (rawV n w.toNat)) := by
  have l := digs_len n 20 (by omega)
  have := rraw_l0 w hw n [] hn (by simp; omega)
  rw [List.append_nil, List.length_reverse] at this
  exact this
theorem first_is : day_First.f = some (-4371587) := by kernel_rfl
theorem last_is : day_Last.f = some 2932896 := by kernel_rfl
/-- The count of day 0, by its kind; 0: no kind. -/
def zeroV (kind : Int) : Int := if kind = 1 then 40587 else if kind = 2 then 2440588 else if kind = 3 then 25567 else if kind = 4 then -3657 else 0
def isKind (kind : Int) : Prop := 1 ≤ kind ∧ kind ≤ 4
instance (kind : Int) : Decidable (isKind kind) := inferInstanceAs (Decidable (_ ∧ _))
theorem zeroV_bd (kind : Int) : -3657 ≤ zeroV kind ∧ zeroV kind ≤ 2440588 := by unfold zeroV; repeat' split
                                                                                all_goals omega
theorem zero_is (kind : Int) : mjd_zero.f kind = some (if isKind kind then (zeroV kind, none) else (0, some 11)) := by
  unfold mjd_zero.f zeroV isKind
  by_cases h1 : kind = 1
  · subst h1; rfl
  · by_cases h2 : kind = 2
    · subst h2; rfl
    · by_cases h3 : kind = 3
      · subst h3; rfl
      · by_cases h4 : kind = 4
        · subst h4; rfl
        · simp only [if_neg h1, if_neg h2, if_neg h3, if_neg h4, if_neg (show ¬ (1 ≤ kind ∧ kind ≤ 4) by omega)]
def isDay (n : Int) : Prop := -4371587 ≤ n ∧ n ≤ 2932896
instance (n : Int) : Decidable (isDay n) := inferInstanceAs (Decidable (_ ∧ _))
theorem there_is (n : Int) : mjd_there.f n = some (decide (isDay n)) := by
  unfold mjd_there.f
  rw [first_is, last_is]
  simp only [Option.bind_some]
  split
  · congr 1; apply decide_eq_decide.mpr; unfold isDay; omega
  · congr 1; symm; apply decide_eq_false; unfold isDay; omega
def countV (kind n : Int) : Int × Option Int := if isKind kind then (if isDay n then (n + zeroV kind, none) else (0, some 13)) else (0, some 11)
theorem count_is (kind n : Int) : mjd_Count.f kind n = some (countV kind n) := by
  unfold mjd_Count.f countV
  rw [zero_is]
  simp only [Option.bind_some]
  by_cases hk : isKind kind
  · simp only [if_pos hk, Option.isNone_none, if_true, there_is, Option.bind_some]
    by_cases hd : isDay n
    · rw [if_pos (decide_eq_true hd), if_pos hd]
      have := zeroV_bd kind
      unfold isDay at hd
      rw [wr (by omega)]
    · rw [if_neg (by rw [decide_eq_false hd]; decide), if_neg hd]
  · simp only [if_neg hk]; rfl
theorem countV_I64 (kind n : Int) : I64 (countV kind n).1 := by
  have := zeroV_bd kind
  unfold countV
  by_cases hk : isKind kind
  · rw [if_pos hk]
    by_cases hd : isDay n
    · rw [if_pos hd]; unfold isDay at hd; unfold I64; simp only; omega
    · rw [if_neg hd]; unfold I64; simp
  · rw [if_neg hk]; unfold I64; simp
theorem countV_small (kind n : Int) : (countV kind n).1 ≠ -9223372036854775808 := by
  have := zeroV_bd kind
  unfold countV
  by_cases hk : isKind kind
  · rw [if_pos hk]
    by_cases hd : isDay n
    · rw [if_pos hd]; unfold isDay at hd; simp only; omega
    · rw [if_neg hd]; simp
  · rw [if_neg hk]; simp
theorem countV_err (kind n : Int) : ∀ e, (countV kind n).2 = some e → e ≠ 0 := by
  intro e
  unfold countV
  by_cases hk : isKind kind
  · rw [if_pos hk]
    by_cases hd : isDay n
    · rw [if_pos hd]; simp
    · rw [if_neg hd]; simp; omega
  · rw [if_neg hk]; simp; omega
theorem rof_l0 (y m n : Int) (h2 : m ≤ 12) (hn : -100000000 ≤ n ∧ n ≤ 100000000) (j : Nat) : ∀ x : Int, 1 ≤ x → x + j = m → Ev (fun k => horologeref05_Of.l0 k y m (n + cm y x) x) (n + cm y m) := by
  induction j with
  | zero =>
    intro x h1 h2
    refine Ev.up ?_
    simp only [horologeref05_Of.l0]
    rw [show x = m by omega]
    exact Ev.neg (by omega) (Ev.now _)
  | succ j ih =>
    intro x h1 h3
    have c := cm_succ y x h1 (by omega)
    have b := cm_bd y x h1 (by omega)
    have l := ml_bd y x
    refine Ev.up ?_
    simp only [horologeref05_Of.l0, rmonth_is y x h1 (by omega), Option.bind_some]
    rw [wr (n := x + 1) (by omega), wr (n := n + cm y x + ml y x) (by omega)]
    have := ih (x + 1) (by omega) (by omega)
    rw [c] at this
    refine Ev.pos (by omega) ?_
    rw [show n + cm y x + ml y x = n + (cm y x + ml y x) by omega]
    exact this
theorem rof_is (y m d : Int) (hy : -9999 ≤ y ∧ y ≤ 9999) (ho : ok y m d) : Ev (fun k => horologeref05_Of.f k y m d) (nm y m d) := by
  obtain ⟨h1, h2, h3, h4⟩ := ho
  have := ml_bd y m
  have b1 := S_mono (show y ≤ 10000 by omega)
  have b2 := S_mono (show -10000 ≤ y by omega)
  have e1 : S 10000 = 2932897 := by decide
  have e2 : S (-10000) = -4371953 := by decide
  unfold horologeref05_Of.f
  refine Ev.bind (rstart_is y (by omega) (by omega)) ?_
  rw [wr (n := S y + d) (by omega), wr (n := S y + d - 1) (by omega)]
  have := rof_l0 y m (S y + d - 1) h2 (by omega) (m - 1).toNat 1 (by decide) (by omega)
  rw [cm_one, Int.add_zero] at this
  rw [show nm y m d = S y + d - 1 + cm y m by unfold nm; omega]
  exact this
theorem rfirst_is : Ev (fun k => horologeref05_First.f k) (-4371587) :=
  Ev.bind (rstart_is (-9999) (by decide) (by decide)) (Ev.cast (Ev.now _) (by decide))
theorem rlast_is : Ev (fun k => horologeref05_Last.f k) 2932896 :=
  Ev.bind (rstart_is 10000 (by decide) (by decide)) (Ev.cast (Ev.now _) (by rw [show S 10000 = 2932897 by decide]; exact wr (by omega)))
theorem rthere_is (n : Int) : Ev (fun k => horologeref07_There.f k n) (decide (isDay n)) := by
  unfold horologeref07_There.f
  refine Ev.bind rfirst_is (Ev.ite (fun h => Ev.bind rlast_is (Ev.cast (Ev.now _) ?_)) (fun h => Ev.cast (Ev.now _) ?_))
  · exact decide_eq_decide.mpr ⟨fun q => ⟨h, q⟩, fun q => q.2⟩
  · rw [decide_eq_false (show ¬ isDay n from fun q => h q.1)]
theorem repoch_is (kind : Int) : Ev (fun k => horologeref07_Epoch.f k kind) (if isKind kind then (-zeroV kind, true) else (0, false)) := by
  have o : ∀ y m d : Int, -9999 ≤ y ∧ y ≤ 9999 → ok y m d → Ev (fun k => (horologeref05_Of.f k y m d).bind fun t => some (t, true)) (nm y m d, true) := fun y m d h1 h2 => Ev.bind (rof_is y m d h1 h2) (Ev.now _)
  unfold horologeref07_Epoch.f
  refine Ev.ite (fun h => ?_) (fun h1 => Ev.ite (fun h => ?_) (fun h2 => Ev.ite (fun h => ?_) (fun h3 => Ev.ite (fun h => ?_) (fun h4 => ?_))))
  · subst h; exact Ev.cast (o 1858 11 17 (by decide) (by decide)) (by decide)
  · subst h; exact Ev.cast (o (-4713) 11 24 (by decide) (by decide)) (by decide)
  · subst h; exact Ev.cast (o 1900 1 1 (by decide) (by decide)) (by decide)
  · subst h; exact Ev.cast (o 1980 1 6 (by decide) (by decide)) (by decide)
  · rw [if_neg (show ¬ isKind kind from fun q => by unfold isKind at q; omega)]; exact Ev.now _
theorem rcount_is (kind n : Int) (hn : I64 n) : Ev (fun k => horologeref07_Count.f k kind n) ((countV kind n).1, match (countV kind n).2 with | none => 0 | some e => e) := by
  unfold horologeref07_Count.f countV
  refine Ev.bind (repoch_is kind) ?_
  by_cases hk : isKind kind
  · simp only [if_pos hk, if_true]
    refine Ev.bind (rthere_is n) ?_
    have := zeroV_bd kind
    by_cases hd : isDay n
    · rw [if_pos hd]
      refine Ev.pos (decide_eq_true hd) ?_
      unfold isDay at hd
      rw [wr (by omega), Int.sub_neg]
      exact Ev.now _
    · rw [if_neg hd]
      exact Ev.neg (by rw [decide_eq_false hd]; decide) (Ev.now _)
  · simp only [if_neg hk]
    exact Ev.now _
theorem is_is (c : Int) : figures_Is.f c = some (decide (figb c)) := by
  unfold figures_Is.f
  split
  · congr 1; exact decide_eq_decide.mpr ⟨fun q => ⟨by omega, q⟩, fun q => q.2⟩
  · congr 1; exact (decide_eq_false (fun q => by unfold figb at q; omega)).symm
theorem mn_nat (a : Nat) (m : Int) (hm : 0 ≤ m) : mn (a : Int) m = ((min m.toNat a : Nat) : Int) := by unfold mn; split <;> omega
theorem run_l0 (s : ByteArray) (m : Int) (hm : 0 ≤ m) (hs : s.size ≤ 140737488351232) (f : Nat) : ∀ i : Nat, i + f = min m.toNat s.size → Ev (fun k => figures_run.l0 k s m i) ((runG s i f : Nat) : Int) := by
  induction f with
  | zero =>
    intro i hi
    refine Ev.up ?_
    simp only [figures_run.l0, mn_nat _ _ hm, runG]
    exact Ev.neg (by omega) (Ev.now _)
  | succ f ih =>
    intro i hi
    refine Ev.up ?_
    simp only [figures_run.l0, mn_nat _ _ hm, is_is, Option.bind_some]
    refine Ev.pos (by omega) (Ev.pos (by omega) (Ev.pos (by omega) (Ev.ite (fun h => ?_) (fun h => ?_))))
    · rw [wr (n := (i : Int) + 1) (by omega)]
      unfold runG
      rw [if_pos (of_decide_eq_true h)]
      exact ih (i + 1) (by omega)
    · unfold runG
      rw [if_neg (fun q => h (decide_eq_true q))]
      exact Ev.now _
theorem run_is (s : ByteArray) (m : Int) (hm : 0 ≤ m) (hs : s.size ≤ 140737488351232) : Ev (fun k => figures_run.f k s m) ((runV s m.toNat : Nat) : Int) := by
  unfold figures_run.f
  exact run_l0 s m hm hs _ 0 (by omega)
theorem value_l0 (s : ByteArray) (L : Int) (hL : 100 ≤ L ∧ L ≤ 18446744073709551615) (hs : s.size ≤ 140737488351232) (hf : ∀ i : Nat, i < s.size → figb (bt s i)) (m : Nat) : ∀ i : Nat, i + m = s.size → nv s i ≤ L →
    Ev (fun k => figures_value.l0 k s L (nv s i) (s.size : Int) i) (if nv s s.size > L then (0, some 5) else (nv s s.size, none)) := by
  induction m with
  | zero =>
    intro i hi hv
    rw [show s.size = i by omega]
    refine Ev.up ?_
    simp only [figures_value.l0]
    rw [if_neg (by omega)]
    exact Ev.neg (by omega) (Ev.now _)
  | succ m ih =>
    intro i hi hv
    have hd := hf i (by omega)
    unfold figb at hd
    have h0 := nv_nonneg s i (fun j hj => hf j (by omega))
    have w1 : (bt s i - 48) % 256 = bt s i - 48 := by omega
    have w2 : IntKind.u64.wrap (Int.tdiv (IntKind.u64.wrap (L - (bt s i - 48))) 10) = (L - (bt s i - 48)) / 10 := by rw [wrap_u64 (L - _), tdiv_is, if_neg (by omega), wrap_u64]; omega
    refine Ev.up ?_
    simp only [figures_value.l0, w1, w2]
    refine Ev.pos (by omega) (Ev.pos (by omega) (Ev.pos (by omega) (Ev.ite (fun h => ?_) (fun h => ?_))))
    · have hm : nv s (i + 1) ≤ nv s s.size := nv_mono s (fun j hj => hf j hj) (by omega)
      simp only [nv] at hm
      rw [if_pos (by omega)]
      exact Ev.now _
    · have w3 : IntKind.u64.wrap (IntKind.u64.wrap (nv s i * 10) + (bt s i - 48)) = nv s (i + 1) := by simp only [nv]; rw [wrap_u64, wrap_u64]; omega
      rw [w3, wr (n := (i : Int) + 1) (by omega)]
      exact ih (i + 1) (by omega) (by simp only [nv]; omega)
theorem value_is (s : ByteArray) (L : Int) (hL : 100 ≤ L ∧ L ≤ 18446744073709551615) (hs : s.size ≤ 140737488351232) (hf : ∀ i : Nat, i < s.size → figb (bt s i)) :
    Ev (fun k => figures_value.f k s L) (if nv s s.size > L then (0, some 5) else (nv s s.size, none)) := by
  unfold figures_value.f
  have := value_l0 s L hL hs hf s.size 0 (by omega) (by simp only [nv]; omega)
  simpa [nv] using this
theorem runV_figs (s : ByteArray) (m : Nat) : ∀ i : Nat, i < runV s m → figb (bt s i) := fun i hi => runG_figs s _ 0 i (by omega) hi
/-- What the figures that a text begins with come to. -/
def takeV (s : ByteArray) (least most L : Int) : Int × Int × Option Int :=
  if least < 1 ∨ least > most ∨ most > 20 then (0, 0, some 1)
  else if (runV s most.toNat : Int) < least then (0, 0, some 2)
  else if nv s (runV s most.toNat) > L then (0, 0, some 5)
  else (nv s (runV s most.toNat), runV s most.toNat, none)
theorem take_is (s : ByteArray) (least most L : Int) (hL : 100 ≤ L ∧ L ≤ 18446744073709551615) (hs : s.size ≤ 140737488351232) : Ev (fun k => figures_take.f k s least most L) (takeV s least most L) := by
  unfold figures_take.f takeV
  have bad : (least < 1 ∨ least > most ∨ most > 20) → Ev (fun k => figures_take.j0 k s least most L true) (if least < 1 ∨ least > most ∨ most > 20 then (0, 0, some 1) else if (runV s most.toNat : Int) < least then (0, 0, some 2) else if nv s (runV s most.toNat) > L then (0, 0, some 5) else (nv s (runV s most.toNat), ((runV s most.toNat : Nat) : Int), none)) := by
    intro h
    rw [if_pos h]
    refine Ev.up ?_
    simp only [figures_take.j0, if_true]
    exact Ev.now _
  refine Ev.ite (fun h => bad (Or.inl h)) (fun h1 => Ev.ite (fun h => bad (Or.inr (Or.inl h))) (fun h2 => ?_))
  by_cases h3 : most > 20
  · rw [decide_eq_true h3]; exact bad (Or.inr (Or.inr h3))
  · rw [decide_eq_false h3, if_neg (by omega)]
    refine Ev.up ?_
    simp only [figures_take.j0, Bool.false_eq_true, if_false]
    refine Ev.bind (run_is s most (by omega) hs) (Ev.ite (fun h => ?_) (fun h => ?_))
    · rw [if_pos h]; exact Ev.now _
    · rw [if_neg h]
      have rb := runV_bd s most.toNat
      have hx : (s.extract 0 ((runV s most.toNat : Nat) : Int).toNat).size = runV s most.toNat := size_extract s _ rb.2
      have hv := value_is (s.extract 0 ((runV s most.toNat : Nat) : Int).toNat) L hL (by rw [hx]; omega) (by
        rw [hx]
        intro i hi
        rw [Int.toNat_natCast, bt_extract s _ i hi rb.2]
        exact runV_figs s _ i hi)
      rw [hx] at hv
      rw [show nv (s.extract 0 ((runV s most.toNat : Nat) : Int).toNat) (runV s most.toNat) = nv s (runV s most.toNat) from nv_extract s _ rb.2 _ (Nat.le_refl _)] at hv
      refine Ev.pos (by omega) (Ev.pos (by omega) (Ev.bind hv ?_))
      by_cases hg : nv s (runV s most.toNat) > L
      · rw [if_pos hg, if_pos hg]; exact Ev.now _
      · rw [if_neg hg, if_neg hg]; exact Ev.now _
theorem whole_is (s : ByteArray) (least most : Int) (hs : s.size ≤ 140737488351232) : Ev (fun k => figures_Whole.f k s least most) (wholeV s least most) := by
  unfold figures_Whole.f figures_whole.f
  have h := take_is s least most 9223372036854775807 (by omega) hs
  have hm : Ev (fun k => (figures_take.f k s least most 9223372036854775807).bind fun bt => if bt.2.2.isNone = true then (if bt.2.1 < (s.size : Int) then some (0, some 2) else some (bt.1, none)) else some (0, some (bt.2.2.getD 0))) (wholeV s least most) := by
    refine Ev.bind h ?_
    unfold takeV wholeV
    by_cases h1 : least < 1 ∨ least > most ∨ most > 20
    · simp only [if_pos h1]; exact Ev.now _
    · simp only [if_neg h1]
      by_cases h2 : (runV s most.toNat : Int) < least
      · simp only [if_pos h2]; exact Ev.now _
      · simp only [if_neg h2]
        by_cases h3 : nv s (runV s most.toNat) > 9223372036854775807
        · simp only [if_pos h3]; exact Ev.now _
        · simp only [if_neg h3, Option.isNone_none, if_true]
          refine Ev.ite (fun h => ?_) (fun h => ?_)
          · rw [if_pos (by omega)]; exact Ev.now _
          · rw [if_neg (by omega)]; exact Ev.now _
  refine Ev.bind hm (Ev.cast (Ev.now _) ?_)
  have hI : I64 (wholeV s least most).1 := by
    unfold wholeV I64
    have := nv_nonneg s (runV s most.toNat) (runV_figs s _)
    repeat' split
    all_goals (simp only; omega)
  rw [wrap64_id hI]
def dayV (kind c : Int) : Int × Option Int := if isKind kind then (if isDay (c - zeroV kind) then (c - zeroV kind, none) else (0, some 13)) else (0, some 11)
theorem mday_is (kind c : Int) : mjd_Day.f kind c = some (dayV kind c) := by
  unfold mjd_Day.f dayV
  rw [zero_is]
  simp only [Option.bind_some]
  have := zeroV_bd kind
  by_cases hk : isKind kind
  · simp only [if_pos hk, Option.isNone_none, if_true, first_is, last_is, Option.bind_some]
    rw [wr (n := -4371587 + zeroV kind) (by omega), wr (n := 2932896 + zeroV kind) (by omega)]
    by_cases hd : isDay (c - zeroV kind)
    · rw [if_pos hd]
      unfold isDay at hd
      rw [if_neg (by omega), if_neg (by omega), wr (by omega)]
    · rw [if_neg hd]
      split
      · rfl
      · rw [if_pos]
        unfold isDay at hd; omega
  · simp only [if_neg hk]; rfl
/-- Five figures of a day. -/
def fiveV (n : Int) : ByteArray × Option Int := match countV 1 n with | (c, none) => (if c < 0 ∨ c > 99999 then (strOfNums [], some 1) else (strOfNums (rawV c.toNat 5), none)) | (_, some e) => (strOfNums [], some e)
theorem five_is (n : Int) : Ev (fun k => mjd_Five.f k n) (fiveV n) := by
  unfold mjd_Five.f fiveV
  refine Ev.bindc (count_is 1 n) ?_
  rcases countV 1 n with ⟨c, e⟩
  cases e with
  | none =>
    simp only [Option.isNone_none, if_true]
    refine Ev.ite (fun h => ?_) (fun h => Ev.ite (fun h2 => ?_) (fun h2 => ?_))
    · rw [if_pos (Or.inl h)]; exact Ev.now _
    · rw [if_pos (Or.inr h2)]; exact Ev.now _
    · rw [if_neg (by omega)]
      refine Ev.bind (put_is c 5 (by unfold I64; omega) (by omega)) ?_
      unfold putV
      rw [if_neg h]
      exact Ev.now _
  | some e =>
    exact Ev.now _
theorem parsefive_is (s : ByteArray) (hs : s.size ≤ 140737488351232) : Ev (fun k => mjd_ParseFive.f k s) (match wholeV s 5 5 with | (c, none) => dayV 1 c | (_, some e) => (0, some e)) := by
  unfold mjd_ParseFive.f
  refine Ev.bind (whole_is s 5 5 hs) ?_
  rcases wholeV s 5 5 with ⟨c, e⟩
  cases e with
  | none => exact Ev.bindc (mday_is 1 c) (Ev.now _)
  | some e => exact Ev.now _
theorem ris_l0 (c : Int) (m : Nat) : ∀ x : Int, 48 ≤ x → x + m = 58 → (48 ≤ c → x ≤ c) → Ev (fun k => horologeref02_Is.l0 k c x) (decide (figb c)) := by
  induction m with
  | zero =>
    intro x h1 h2 h3
    refine Ev.up ?_
    simp only [horologeref02_Is.l0]
    rw [decide_eq_false (fun q => by unfold figb at q; omega)]
    exact Ev.neg (by omega) (Ev.now _)
  | succ m ih =>
    intro x h1 h2 h3
    refine Ev.up ?_
    simp only [horologeref02_Is.l0]
    refine Ev.pos (by omega) (Ev.ite (fun h => ?_) (fun h => ?_))
    · rw [decide_eq_true (show figb c from ⟨by omega, by omega⟩)]; exact Ev.now _
    · rw [show (x + 1) % 256 = x + 1 by omega]
      exact ih (x + 1) (by omega) (by omega) (by omega)
theorem ris_is (c : Int) : Ev (fun k => horologeref02_Is.f k c) (decide (figb c)) := ris_l0 c 10 48 (by decide) (by decide) (by omega)
theorem many_l0 (s : ByteArray) (hs : s.size ≤ 140737488351232) (f : Nat) : ∀ i : Nat, i + f = s.size → Ev (fun k => horologeref02_Many.l0 k s i) ((runG s i f : Nat) : Int) := by
  induction f with
  | zero =>
    intro i hi
    refine Ev.up ?_
    simp only [horologeref02_Many.l0, runG]
    rw [← hi]
    exact Ev.neg (by omega) (Ev.cast (Ev.now _) (by omega))
  | succ f ih =>
    intro i hi
    refine Ev.up ?_
    simp only [horologeref02_Many.l0]
    refine Ev.pos (by omega) (Ev.pos (by omega) (Ev.bind (ris_is _) (Ev.ite (fun h => ?_) (fun h => ?_))))
    · rw [wr (n := (i : Int) + 1) (by omega)]
      unfold runG
      rw [if_pos (of_decide_eq_true h)]
      exact ih (i + 1) (by omega)
    · unfold runG
      rw [if_neg (fun q => h (decide_eq_true q))]
      exact Ev.now _
theorem many_is (s : ByteArray) (hs : s.size ≤ 140737488351232) : Ev (fun k => horologeref02_Many.f k s) ((runG s 0 s.size : Nat) : Int) := many_l0 s hs s.size 0 (by omega)
theorem rbig_l0 (s : ByteArray) (hs : s.size ≤ 100) (hf : ∀ i : Nat, i < s.size → figb (bt s i)) (m : Nat) : ∀ (i : Nat) (b : Bool × List Int), i + m = s.size → Is b (nv s i) (4 + 6 * i) →
    ∃ r, Ev (fun k => horologeref02_Big.l0 k s i b.1 b.2) r ∧ Is r (nv s s.size) 1000 := by
  induction m with
  | zero =>
    intro i b hi hb
    refine ⟨b, Ev.up ?_, ?_⟩
    · simp only [horologeref02_Big.l0]
      exact Ev.neg (by omega) (Ev.now _)
    · rw [← hi]; exact hb.mono (by omega)
  | succ m ih =>
    intro i b hi hb
    have hd := hf i (by omega)
    unfold figb at hd
    obtain ⟨t, t1, t2⟩ := Of_is 10 (by unfold I64; omega)
    obtain ⟨p, p1, p2⟩ := Times_is hb t2 (by omega) (by decide)
    obtain ⟨d, d1, d2⟩ := Of_is (bt s i - 48) (by unfold I64; omega)
    obtain ⟨q, q1, q2⟩ := Plus_is p2 d2 (by omega) (by decide)
    obtain ⟨r, r1, r2⟩ := ih (i + 1) q (by omega) (by simp only [nv]; exact q2.mono (by omega))
    refine ⟨r, Ev.up ?_, r2⟩
    simp only [horologeref02_Big.l0]
    rw [show (bt s i - 48) % 256 = bt s i - 48 by omega, wr (n := (i : Int) + 1) (by omega)]
    exact Ev.pos (by omega) (Ev.bind t1 (Ev.bind p1 (Ev.pos (by omega) (Ev.bind d1 (Ev.bind q1 r1)))))
theorem rbig_is (s : ByteArray) (hs : s.size ≤ 100) (hf : ∀ i : Nat, i < s.size → figb (bt s i)) : ∃ r, Ev (fun k => horologeref02_Big.f k s) r ∧ Is r (nv s s.size) 1000 := by
  obtain ⟨z, z1, z2⟩ := Of_is 0 (by unfold I64; omega)
  obtain ⟨r, r1, r2⟩ := rbig_l0 s hs hf s.size 0 z (by omega) (by simpa [nv] using z2)
  exact ⟨r, Ev.bind z1 r1, r2⟩
/-- An answer with an error's number in the place of an error. -/
def en (e : Option Int) : Int := match e with | none => 0 | some c => c
def rtakeV (s : ByteArray) (least most : Int) : Int × Int × Int :=
  if least < 1 ∨ least > most ∨ most > 20 then (0, 0, 1)
  else if (runV s most.toNat : Int) < least then (0, 0, 2)
  else if nv s (runV s most.toNat) > 9223372036854775807 then (0, 0, 5)
  else (nv s (runV s most.toNat), runV s most.toNat, 0)
theorem rtake_is (s : ByteArray) (least most : Int) (hs : s.size ≤ 140737488351232) : Ev (fun k => horologeref02_Take.f k s least most) (rtakeV s least most) := by
  unfold horologeref02_Take.f rtakeV
  have bad : (least < 1 ∨ least > most ∨ most > 20) → Ev (fun k => horologeref02_Take.j0 k s least most true) (if least < 1 ∨ least > most ∨ most > 20 then (0, 0, 1) else if (runV s most.toNat : Int) < least then (0, 0, 2) else if nv s (runV s most.toNat) > 9223372036854775807 then (0, 0, 5) else (nv s (runV s most.toNat), ((runV s most.toNat : Nat) : Int), 0)) := by
    intro h
    rw [if_pos h]
    refine Ev.up ?_
    simp only [horologeref02_Take.j0, if_true]
    exact Ev.now _
  refine Ev.ite (fun h => bad (Or.inl h)) (fun h1 => Ev.ite (fun h => bad (Or.inr (Or.inl h))) (fun h2 => ?_))
  by_cases h3 : most > 20
  · rw [decide_eq_true h3]; exact bad (Or.inr (Or.inr h3))
  · rw [decide_eq_false h3, if_neg (by omega)]
    have rb := runV_bd s most.toNat
    have hmain : Ev (fun k => horologeref02_Take.j1 k s least ((runV s most.toNat : Nat) : Int)) (if (runV s most.toNat : Int) < least then (0, 0, 2) else if nv s (runV s most.toNat) > 9223372036854775807 then (0, 0, 5) else (nv s (runV s most.toNat), ((runV s most.toNat : Nat) : Int), 0)) := by
      refine Ev.up ?_
      simp only [horologeref02_Take.j1]
      refine Ev.ite (fun h => ?_) (fun h => ?_)
      · rw [if_pos h]; exact Ev.now _
      · rw [if_neg h]
        have hx : (s.extract 0 ((runV s most.toNat : Nat) : Int).toNat).size = runV s most.toNat := size_extract s _ rb.2
        obtain ⟨r, r1, r2⟩ := rbig_is (s.extract 0 ((runV s most.toNat : Nat) : Int).toNat) (by rw [hx]; omega) (by
          rw [hx]
          intro i hi
          rw [Int.toNat_natCast, bt_extract s _ i hi rb.2]
          exact runG_figs s _ 0 i (by omega) hi)
        rw [hx] at r2
        rw [show nv (s.extract 0 ((runV s most.toNat : Nat) : Int).toNat) (runV s most.toNat) = nv s (runV s most.toNat) from nv_extract s _ rb.2 _ (Nat.le_refl _)] at r2
        have hsm := Small_is r2 (by decide)
        have h0 := nv_nonneg s (runV s most.toNat) (fun i hi => runG_figs s _ 0 i (by omega) hi)
        refine Ev.pos (by omega) (Ev.pos (by omega) (Ev.bind r1 (Ev.bind hsm ?_)))
        by_cases hg : nv s (runV s most.toNat) > 9223372036854775807
        · rw [smallV_out (by unfold I64; omega), if_pos hg]; exact Ev.neg (by decide) (Ev.now _)
        · rw [smallV_in (by unfold I64; omega), if_neg hg]; exact Ev.pos rfl (Ev.now _)
    have hr := runV_min s most.toNat
    refine Ev.up ?_
    simp only [horologeref02_Take.j0, Bool.false_eq_true, if_false]
    refine Ev.bind (many_is s hs) (Ev.ite (fun h => ?_) (fun h => ?_))
    · have e : ((runV s most.toNat : Nat) : Int) = most := by omega
      exact Ev.congr (fun k => by rw [e]) hmain
    · rw [show ((runG s 0 s.size : Nat) : Int) = ((runV s most.toNat : Nat) : Int) by omega]
      exact hmain
theorem rwhole_is (s : ByteArray) (least most : Int) (hs : s.size ≤ 140737488351232) : Ev (fun k => horologeref02_Whole.f k s least most) ((wholeV s least most).1, en (wholeV s least most).2) := by
  unfold horologeref02_Whole.f
  refine Ev.bind (rtake_is s least most hs) ?_
  unfold rtakeV wholeV
  by_cases h1 : least < 1 ∨ least > most ∨ most > 20
  · simp only [if_pos h1]; exact Ev.now _
  · simp only [if_neg h1]
    by_cases h2 : (runV s most.toNat : Int) < least
    · simp only [if_pos h2]; exact Ev.now _
    · simp only [if_neg h2]
      by_cases h3 : nv s (runV s most.toNat) > 9223372036854775807
      · simp only [if_pos h3]; exact Ev.now _
      · simp only [if_neg h3, if_true]
        refine Ev.ite (fun h => ?_) (fun h => ?_)
        · rw [if_pos (by omega)]; exact Ev.now _
        · rw [if_neg (by omega)]; exact Ev.now _
end Go.Proofs.Ytlhjgkfhjmjcgaa.MMjdFives
namespace Go.Proofs.Ytlhjgkfhjmjcgaa.Pure
open Go.RowKit Go.Proofs.Ytlhjgkfhjmjcgaa.MMjdFives Go.Proofs.YtlhjgkfhjmjcgaaW.PrintWords Go.Proofs.YtlhjgkfhjmjcgaaW.PrintLast Go.Proofs.Ytlhjgkfhjmjcgaa.Base
set_option linter.unusedVariables false
set_option linter.unusedSimpArgs false
theorem MjdFives : horologelaw07_MjdFives.Pure := by
  intro n s hn hs
  replace hn := i64_of hn
  refine Ev.ok (g := fun k => horologelaw07_MjdFives.f k n s) ?_
  unfold horologelaw07_MjdFives.f
  refine Ev.bindc (show horologelaw07_alive.f = some true by kernel_rfl) (Ev.pos rfl (Ev.ite (fun _ => Ev.now _) (fun hlen => ?_)))
  -- the text
  have h3 : Ev (fun k => horologelaw07_MjdFives.j3 k s false) true := by
    refine Ev.up ?_
    simp only [horologelaw07_MjdFives.j3, Bool.false_eq_true, if_false]
    refine Ev.bind (parsefive_is s hs) ?_
    have hr := runV_min s 5
    have rb := runV_bd s 5
    have hlt := nv_lt s (runV s 5) (runV_figs s 5)
    have h0 := nv_nonneg s (runV s 5) (runV_figs s 5)
    have hp : (10 : Int) ^ runV s 5 ≤ 100000 := by
      have : runV s 5 = 0 ∨ runV s 5 = 1 ∨ runV s 5 = 2 ∨ runV s 5 = 3 ∨ runV s 5 = 4 ∨ runV s 5 = 5 := by omega
      rcases this with h | h | h | h | h | h <;> (rw [h]; decide)
    have hwv : wholeV s 5 5 = if s.size = 5 ∧ runG s 0 s.size = 5 then (nv s 5, none) else (0, some 2) := by
      unfold wholeV
      rw [show (5 : Int).toNat = 5 from rfl, if_neg (by omega)]
      by_cases h : runV s 5 = 5
      · rw [if_neg (by omega), if_neg (by omega)]
        by_cases h2 : s.size = 5
        · have g := (runG_bd s s.size 0).2
          rw [if_neg (by omega), if_pos ⟨h2, by omega⟩, h]
        · rw [if_pos (by omega), if_neg (fun q => h2 q.1)]
      · rw [if_pos (by omega), if_neg (by omega)]
    have no : wholeV s 5 5 = (0, some 2) → Ev (fun k => horologelaw07_MjdFives.j4 k s (some 2) 0 true) true := by
      intro _
      refine Ev.up ?_
      simp only [horologelaw07_MjdFives.j4, if_true]
      exact Ev.bindc (show horologenum_Is.f (some 2) 2 = some true from rfl) (Ev.now _)
    by_cases h5 : s.size = 5 ∧ runG s 0 s.size = 5
    · rw [if_pos h5] at hwv
      rw [hwv]
      simp only
      have hn5 : nv s 5 < 100000 ∧ 0 ≤ nv s 5 := by
        have e : runV s 5 = 5 := by omega
        rw [e] at hlt h0 hp
        exact ⟨by omega, h0⟩
      have hd : dayV 1 (nv s 5) = (nv s 5 - 40587, none) := by
        unfold dayV
        rw [show zeroV 1 = 40587 from rfl, if_pos (by decide), if_pos (by unfold isDay; omega)]
      rw [hd]
      refine Ev.pos (by omega) (Ev.bind (many_is s hs) ?_)
      rw [h5.2, show (((5 : Nat) : Int) != 5) = false from rfl]
      refine Ev.up ?_
      simp only [horologelaw07_MjdFives.j4, Bool.false_eq_true, if_false, Option.isNone_none, if_true]
      refine Ev.bind (rwhole_is s 5 5 hs) (Ev.cast (Ev.now _) ?_)
      rw [hwv, wr (by simp only; omega)]
      exact beq_self_eq_true _
    · rw [if_neg h5] at hwv
      have no := no hwv
      rw [hwv]
      simp only
      refine Ev.ite (fun h => Ev.bind (many_is s hs) ?_) (fun h => no)
      rw [show (((runG s 0 s.size : Nat) : Int) != 5) = true from bne_iff_ne.mpr (by omega)]
      exact no
  have h2 : ∀ (t : ByteArray) (e : Option Int) (b : Int), horologenum_Num.f e = some b → Ev (fun k => horologelaw07_MjdFives.j2 k s t e b t) true := by
    intro t e b hb
    refine Ev.up ?_
    simp only [horologelaw07_MjdFives.j2, if_true]
    refine Ev.bindc hb ?_
    rw [bne_self_eq_false]
    exact h3
  refine Ev.bind (five_is n) (Ev.bind (rcount_is 1 n hn) ?_)
  unfold fiveV
  have hs := countV_small 1 n
  have he := countV_err 1 n
  rcases hp : countV 1 n with ⟨c, e⟩
  rw [hp] at he
  cases e with
  | none =>
    simp only
    refine Ev.pos trivial ?_
    have bad : (c < 0 ∨ c > 99999) → Ev (fun k => horologelaw07_MjdFives.j0 k s (if c < 0 ∨ c > 99999 then (strOfNums [], some 1) else (strOfNums (rawV c.toNat 5), none) : ByteArray × Option Int).1 (if c < 0 ∨ c > 99999 then (strOfNums [], some 1) else (strOfNums (rawV c.toNat 5), none) : ByteArray × Option Int).2 c 0 true) true := by
      intro h
      rw [if_pos h]
      refine Ev.up ?_
      simp only [horologelaw07_MjdFives.j0, if_true]
      refine Ev.up ?_
      simp only [horologelaw07_MjdFives.j1]
      exact Ev.neg (by decide) (h2 _ _ _ rfl)
    refine Ev.ite (fun h => bad (Or.inl h)) (fun h => ?_)
    by_cases hb : c > 99999
    · rw [decide_eq_true hb]; exact bad (Or.inr hb)
    · rw [decide_eq_false hb, if_neg (by omega)]
      refine Ev.up ?_
      simp only [horologelaw07_MjdFives.j0, Bool.false_eq_true, if_false]
      refine Ev.up ?_
      simp only [horologelaw07_MjdFives.j1]
      have := rraw_is c.toNat 5 (by omega) (by omega)
      rw [show ((c.toNat : Nat) : Int) = c by omega] at this
      exact Ev.pos trivial (Ev.bind this (h2 _ _ _ rfl))
  | some e =>
    simp only
    have he := he e rfl
    refine Ev.neg he ?_
    refine Ev.up ?_
    simp only [horologelaw07_MjdFives.j0, Bool.false_eq_true, if_false]
    refine Ev.up ?_
    simp only [horologelaw07_MjdFives.j1]
    exact Ev.neg he (h2 _ _ _ (by rw [num_is]; simp [he]))
end Go.Proofs.Ytlhjgkfhjmjcgaa.Pure
