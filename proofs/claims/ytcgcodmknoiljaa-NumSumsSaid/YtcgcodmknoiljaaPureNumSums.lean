/- NumSums: the sum of any numbers, and which ones are within two others, are the document's. For every list of numbers of Go's kinds; no further condition (beyond 100 numbers the statement says nothing). -/
import Derived.Test.YtcgcodmknoiljaaTNumSumsBig2
namespace Go.Proofs.Ytcgcodmknoiljaa.MNumSums
open Go.RowKit Go.Proofs.YtcgcodmknoiljaaW.PrintWords Go.Proofs.YtcgcodmknoiljaaW.PrintLast Go.Proofs.YtcgcodmknoiljaaW.PrintMore Go.Proofs.Ytcgcodmknoiljaa.Base
set_option linter.unusedVariables false
set_option linter.unusedSimpArgs false

theorem add_is (a b : Int) (ha : I64 a) (hb : I64 b) : num_Add.f a b = some (ovf (a + b)) := by
  unfold I64 at ha hb
  unfold num_Add.f ovf
  by_cases h : I64 (a + b)
  · have w := wrap64_id h
    unfold I64 at h
    rw [w, if_pos (show I64 (a + b) from h)]
    repeat' split
    all_goals first | rfl | omega
  · rw [if_neg h]
    unfold I64 at h
    unfold wrap64
    repeat' split
    all_goals first | rfl | (exfalso; omega)
theorem num_is (e : Option Int) : horologenum_Num.f e = some (match e with | none => 0 | some c => if c = 0 then -1 else c) := by
  unfold horologenum_Num.f
  cases e <;> simp
  split <;> rfl
theorem alive_is : Ev (fun k => horologelaw01_alive.f k) true := Ev.of (fun k => horologelaw01_alive.mono k) (k := 10) (by kernel_rfl)
/-- The sum of numbers, from one on; too great as soon as a sum on the way is. -/
def sumV : Int → List Int → Int × Option Int
  | v, [] => (v, none)
  | v, x :: xs => if I64 (v + x) then sumV (v + x) xs else (0, some 5)
theorem rd_drop {l : List Int} {i : Nat} (h : i < l.length) : l.drop i = rd l i :: l.drop (i + 1) := by
  unfold rd
  rw [List.drop_eq_getElem_cons h]
  simp [h]
theorem sum_l0 (l : List Int) (hl : ∀ x ∈ l, I64 x) (hn : l.length ≤ 1000) (m : Nat) : ∀ (i : Nat) (v : Int), I64 v → i + m = l.length → Ev (fun k => num_Sum.l0 k v l (l.length : Int) i) (sumV v (l.drop i)) := by
  induction m with
  | zero =>
    intro i v hv hi
    rw [List.drop_eq_nil_of_le (by omega)]
    refine Ev.up ?_
    simp only [num_Sum.l0, sumV]
    exact Ev.neg (by omega) (Ev.now _)
  | succ m ih =>
    intro i v hv hi
    have hd := rd_drop (l := l) (i := i) (by omega)
    have hx : I64 (rd l i) := hl _ (List.mem_of_mem_drop (hd ▸ List.mem_cons_self))
    rw [hd]
    refine Ev.up ?_
    simp only [num_Sum.l0, sumV]
    refine Ev.pos (by omega) (Ev.pos (by omega) (Ev.pos (by omega) (Ev.bindc (add_is v _ hv hx) ?_)))
    by_cases h : I64 (v + rd l i)
    · rw [ovf_in h, if_pos h, wr (n := (i : Int) + 1) (by omega)]
      exact Ev.pos rfl (ih (i + 1) _ h (by omega))
    · rw [ovf_out h, if_neg h]
      exact Ev.neg (by simp) (Ev.now _)
theorem wide_l0 (l : List Int) (hn : l.length ≤ 1000) (m : Nat) : ∀ (i : Nat), i + m = l.length → Ev (fun k => horologenum_Wide.l0 k l l (l.length : Int) i) true := by
  induction m with
  | zero =>
    intro i hi
    refine Ev.up ?_
    simp only [horologenum_Wide.l0]
    exact Ev.neg (by omega) (Ev.now _)
  | succ m ih =>
    intro i hi
    refine Ev.up ?_
    simp only [horologenum_Wide.l0]
    rw [wr (n := (i : Int) + 1) (by omega)]
    exact Ev.pos (by omega) (Ev.pos (by omega) (Ev.pos (by omega) (Ev.pos (by omega) (Ev.pos trivial (ih (i + 1) (by omega))))))
theorem wide_is (l : List Int) (hn : l.length ≤ 1000) : Ev (fun k => horologenum_Wide.f k l l) true := by
  unfold horologenum_Wide.f
  exact Ev.pos rfl (wide_l0 l hn l.length 0 (by omega))
theorem within_is (x a b : Int) : num_Within.f x a b = some (decide (a ≤ x ∧ x ≤ b)) := by
  unfold num_Within.f
  split
  · congr 1; simp; omega
  · congr 1; simp; omega
/-- The tail of a round: what is within two numbers. -/
theorem within_step {g : Nat → Option Bool} (x a b : Int) (h : Ev g true) :
    Ev (fun k => (num_Within.f x a b).bind fun t => if a ≤ x then (if (t != (decide (x ≤ b))) = true then some false else g k) else (if (t != false) = true then some false else g k)) true := by
  refine Ev.bindc (within_is x a b) (Ev.ite (fun h1 => ?_) (fun h1 => ?_))
  · refine Ev.neg ?_ h
    have : decide (a ≤ x ∧ x ≤ b) = decide (x ≤ b) := by congr 1; exact propext ⟨fun q => q.2, fun q => ⟨h1, q⟩⟩
    rw [this]; simp
  · refine Ev.neg ?_ h
    rw [decide_eq_false (fun q => h1 q.1)]; simp
/-- The sum is told: too great for good. -/
theorem over_l0 (l : List Int) (a b : Int) (hn : l.length ≤ 100) (w : Bool × List Int) (x : Int) (n : Nat) (hw : Is w x n) (hnn : n ≤ 1000) (hx : ¬ I64 x) (m : Nat) : ∀ (i : Nat), i + m = l.length →
    Ev (fun k => horologelaw01_NumSums.l0 k l a b l 0 (some 5) 5 l (l.length : Int) i w.1 w.2) true := by
  induction m with
  | zero =>
    intro i hi
    refine Ev.up ?_
    simp only [horologelaw01_NumSums.l0]
    refine Ev.neg (by omega) (Ev.bind (Small_is hw (by omega)) ?_)
    rw [smallV_out hx]
    exact Ev.pos rfl (Ev.bindc (num_is _) (Ev.pos rfl (Ev.bind (wide_is l (by omega)) (Ev.now _))))
  | succ m ih =>
    intro i hi
    refine Ev.up ?_
    simp only [horologelaw01_NumSums.l0]
    rw [wr (n := (i : Int) + 1) (by omega)]
    exact Ev.pos (by omega) (Ev.pos (by omega) (Ev.pos (by omega) (Ev.neg (by decide) (within_step _ _ _ (ih (i + 1) (by omega))))))
theorem main_l0 (l : List Int) (hl : ∀ x ∈ l, I64 x) (a b : Int) (hn : l.length ≤ 100) (m : Nat) : ∀ (i : Nat) (v : Int) (w : Bool × List Int), I64 v → i + m = l.length → Is w v (4 + i) →
    Ev (fun k => horologelaw01_NumSums.l0 k l a b l (sumV v (l.drop i)).1 (sumV v (l.drop i)).2 0 l (l.length : Int) i w.1 w.2) true := by
  induction m with
  | zero =>
    intro i v w hv hi hw
    rw [List.drop_eq_nil_of_le (by omega)]
    simp only [sumV]
    refine Ev.up ?_
    simp only [horologelaw01_NumSums.l0]
    refine Ev.neg (by omega) (Ev.bind (Small_is hw (by omega)) ?_)
    rw [smallV_in hv]
    exact Ev.pos rfl (Ev.bindc (num_is _) (Ev.pos rfl (Ev.bind (wide_is l (by omega)) (Ev.now _))))
  | succ m ih =>
    intro i v w hv hi hw
    have hd := rd_drop (l := l) (i := i) (by omega)
    have hx : I64 (rd l i) := hl _ (List.mem_of_mem_drop (hd ▸ List.mem_cons_self))
    obtain ⟨o, o1, o2⟩ := Of_is _ hx
    obtain ⟨s, s1, s2⟩ := Plus_is hw o2 (by omega) (by decide)
    have s3 := Small_is s2 (by omega)
    rw [hd]
    refine Ev.up ?_
    simp only [horologelaw01_NumSums.l0, sumV]
    rw [wr (n := (i : Int) + 1) (by omega)]
    refine Ev.pos (by omega) (Ev.pos (by omega) (Ev.pos (by omega) (Ev.pos trivial (Ev.bind o1 (Ev.bind s1 (Ev.bind s3 (within_step _ _ _ ?_)))))))
    by_cases h : I64 (v + rd l i)
    · rw [if_pos h, smallV_in h]
      exact ih (i + 1) _ s h (by omega) (s2.mono (by omega))
    · rw [if_neg h, smallV_out h]
      exact over_l0 l a b hn s _ _ s2 (by omega) h m (i + 1) (by omega)
end Go.Proofs.Ytcgcodmknoiljaa.MNumSums
namespace Go.Proofs.Ytcgcodmknoiljaa.Pure
open Go.RowKit Go.Proofs.Ytcgcodmknoiljaa.MNumSums Go.Proofs.YtcgcodmknoiljaaW.PrintWords Go.Proofs.YtcgcodmknoiljaaW.PrintLast Go.Proofs.Ytcgcodmknoiljaa.Base
set_option linter.unusedVariables false
set_option linter.unusedSimpArgs false
theorem NumSums : horologelaw01_NumSums.Pure := by
  intro l a b _ _ hl _ _
  have hl' : ∀ x ∈ l, I64 x := fun x hx => i64_of (hl x hx)
  refine Ev.ok (g := fun k => horologelaw01_NumSums.f k l a b) ?_
  unfold horologelaw01_NumSums.f
  refine Ev.bind alive_is (Ev.pos rfl (Ev.ite (fun _ => Ev.now _) (fun h => ?_)))
  simp only [Option.bind_some, List.nil_append, List.length_nil]
  refine Ev.pos (by omega) ?_
  obtain ⟨o, o1, o2⟩ := Of_is 0 (by unfold I64; omega)
  have h1 := sum_l0 l hl' (by omega) l.length 0 0 (by unfold I64; omega) (by omega)
  have h2 := main_l0 l hl' a b (by omega) l.length 0 0 o (by unfold I64; omega) (by omega) (o2.mono (by omega))
  rw [List.drop_zero] at h1 h2
  exact Ev.bind h1 (Ev.bind o1 h2)
end Go.Proofs.Ytcgcodmknoiljaa.Pure
