/-
  What the document's reader of scripts answers: the acts of bytes, as the document writes them; and that such a list is the same as itself. For all bytes (at most 1000000000 of them).
-/
import Derived.Test.YtecbahciplnhfaaScriptPure
namespace Go.Proofs.Ytecbahciplnhfaa
set_option linter.unusedVariables false
set_option linter.unusedSimpArgs false
set_option linter.unnecessarySimpa false
open Go.RowKit Go.Proofs.YtecbahciplnhfaaW.PrintWords Go.Proofs.YtecbahciplnhfaaW.PrintLast Go.Proofs.YtecbahciplnhfaaW.PrintMore Go.Proofs.Ytecbahciplnhfaa.MScriptDecodes Go.Proofs.Ytecbahciplnhfaa.Base
def doc (x : S33) : S43 := ⟨x.f0, x.f1, x.f2, x.f3, x.f4, x.f5, strOfNums x.f6⟩
theorem rd_drop (b : List Int) (p j : Nat) : rd b ((p : Int) + (j : Int)) = (b.drop p).getD j 0 := by
  unfold rd
  rw [show ((p : Int) + (j : Int)).toNat = p + j by omega]
  simp [List.getD_eq_getElem?_getD]
theorem rnumber_l {b : List Int} (hb : Bytes b) {p m : Nat} (hm : m ≤ 8) (hp : p ≤ 4000000000) : ∀ (n j : Nat), j + n = m → Ev (fun k => horologeref39_number.l0 k b (p : Int) (m : Int) (NV (b.drop p) j) ((p : Int) + (j : Int))) (NV (b.drop p) m)
  | 0, j, h => by
    obtain rfl : j = m := by omega
    refine Ev.up ?_
    simp only [horologeref39_number.l0]
    exact Ev.neg (by rw [wr (by omega)]; omega) (Ev.now _)
  | n + 1, j, h => by
    have ih := rnumber_l hb hm hp n (j + 1) (by omega)
    have hj : j < 8 := by omega
    have e1 : wrap64 ((p : Int) + (j : Int) + 1) = (p : Int) + ((j + 1 : Nat) : Int) := by rw [wr (by omega)]; omega
    refine Ev.up ?_
    simp only [horologeref39_number.l0]
    refine Ev.pos (by rw [wr (by omega)]; omega) ?_
    rw [e1]
    obtain ⟨s0, s1⟩ := NV_small (hb.drop p) hj
    have hB := (hb.drop p).get j
    unfold Byte at hB
    by_cases c : (p : Int) + (j : Int) < (b.length : Int)
    · refine Ev.pos c (Ev.pos (by omega) ?_)
      have e2 : IntKind.u64.wrap (IntKind.u64.wrap (NV (b.drop p) j * 256) + IntKind.u64.wrap (rd b ((p : Int) + (j : Int)))) = NV (b.drop p) (j + 1) := by
        rw [rd_drop]
        simp only [NV, wrap_u64]
        omega
      rw [e2]
      exact ih
    · refine Ev.neg c ?_
      rw [NV_none (hb.drop p) hj (by simp only [List.length_drop]; omega)]
      exact ih
theorem rnumber_is {b : List Int} (hb : Bytes b) {p m : Nat} (hm : m ≤ 8) (hp : p ≤ 4000000000) {x y : Int} (hx : x = (p : Int)) (hy : y = (m : Int)) : Ev (fun k => horologeref39_number.f k b x y) (NV (b.drop p) m) := by
  subst hx hy
  have h := rnumber_l hb hm hp m 0 (by omega)
  unfold horologeref39_number.f
  simpa [NV] using h
theorem rtext_is {b : List Int} (hb : Bytes b) (hl : b.length ≤ 1000000000) {p : Nat} (hp : p ≤ 3000000000) {x : Int} (hx : x = (p : Int)) : ∃ q : Nat, Ev (fun k => horologeref39_text.f k b x) (strOfNums (tx (b.drop p)).1, (q : Int)) ∧ b.drop q = (tx (b.drop p)).2 ∧ q ≤ b.length := by
  subst hx
  have n2 := NV2 (hb.drop p)
  obtain ⟨t, ht⟩ : ∃ t : Nat, NV (b.drop p) 2 = (t : Int) := ⟨(NV (b.drop p) 2).toNat, by omega⟩
  have e1 : wrap64 ((p : Int) + 2) = ((p + 2 : Nat) : Int) := by rw [wr (by omega)]; omega
  have e2 : wrap64 (wrap64 ((p : Int) + 2) + wrap64 (t : Int)) = ((p + 2 + t : Nat) : Int) := by rw [e1, wr (n := (t : Int)) (by omega), wr (by omega)]; omega
  have key : ∀ q : Nat, q ≤ b.length → q ≤ p + 2 + t → (p + 2 + t ≤ b.length → q = p + 2 + t) → (b.length < p + 2 + t → q = b.length) →
      Ev (fun k => horologeref39_text.j0 k b (p : Int) (q : Int)) (strOfNums (tx (b.drop p)).1, (q : Int)) ∧ b.drop q = (tx (b.drop p)).2 := by
    intro q h1 h2 h3 h4
    constructor
    · refine Ev.up ?_
      simp only [horologeref39_text.j0]
      rw [e1]
      by_cases c : ((p + 2 : Nat) : Int) ≥ (q : Int)
      · refine Ev.pos c ?_
        have e : (tx (b.drop p)).1 = [] := by
          unfold tx
          rw [ht, Int.toNat_natCast]
          apply List.eq_nil_of_length_eq_zero
          simp only [List.length_take, List.length_drop]
          omega
        rw [e]
        exact Ev.cast (Ev.now _) (by rfl)
      · refine Ev.neg c (Ev.pos (by omega) (Ev.pos (by omega) (Ev.pos (by omega) ?_)))
        have e : (b.take ((q : Int)).toNat).drop (((p + 2 : Nat) : Int)).toNat = (tx (b.drop p)).1 := by
          unfold tx
          rw [ht, Int.toNat_natCast, Int.toNat_natCast, Int.toNat_natCast]
          simp only [List.drop_drop]
          rw [List.drop_take]
          by_cases g : p + 2 + t ≤ b.length
          · rw [h3 g]
            congr 1
            omega
          · rw [h4 (by omega), List.take_of_length_le (by simp only [List.length_drop]; omega), List.take_of_length_le (by simp only [List.length_drop]; omega)]
        rw [e]
        exact Ev.now _
    · unfold tx
      rw [ht, Int.toNat_natCast]
      simp only [List.drop_drop]
      by_cases g : p + 2 + t ≤ b.length
      · rw [h3 g]
      · rw [h4 (by omega), List.drop_eq_nil_of_le (Nat.le_refl _), List.drop_eq_nil_of_le (by omega)]
  by_cases c : ((p + 2 + t : Nat) : Int) > (b.length : Int)
  · obtain ⟨k1, k2⟩ := key b.length (Nat.le_refl _) (by omega) (fun h => by omega) (fun _ => rfl)
    refine ⟨b.length, ?_, k2, Nat.le_refl _⟩
    unfold horologeref39_text.f
    refine Ev.bind (rnumber_is hb (m := 2) (by omega) (by omega) rfl rfl) ?_
    rw [ht, e2]
    exact Ev.pos c k1
  · obtain ⟨k1, k2⟩ := key (p + 2 + t) (by omega) (Nat.le_refl _) (fun _ => rfl) (fun h => by omega)
    refine ⟨p + 2 + t, ?_, k2, by omega⟩
    unfold horologeref39_text.f
    refine Ev.bind (rnumber_is hb (m := 2) (by omega) (by omega) rfl rfl) ?_
    rw [ht, e2]
    exact Ev.neg c k1
theorem document_l : ∀ (ys pre : List S33) , (pre ++ ys).length ≤ 1000000000 → Ev (fun k => horologelaw39_Document.l0 k (pre.map doc) (pre ++ ys) ((pre ++ ys).length : Int) (pre.length : Int)) ((pre ++ ys).map doc)
  | [], pre, hn => by
    refine Ev.up ?_
    simp only [horologelaw39_Document.l0]
    exact Ev.neg (by simp) (Ev.cast (Ev.now _) (by simp))
  | y :: ys, pre, hn => by
    have hlt : pre.length < (pre ++ y :: ys).length := by simp only [List.length_append, List.length_cons]; omega
    have ih := document_l ys (pre ++ [y]) (by simpa using hn)
    refine Ev.up ?_
    simp only [horologelaw39_Document.l0, rd_at]
    refine Ev.pos (Int.ofNat_lt.2 hlt) (Ev.pos (Int.natCast_nonneg _) (Ev.pos (Int.ofNat_lt.2 hlt) (Ev.pos (by simp only [List.length_map]; omega) ?_)))
    rw [nextw hlt (by omega)]
    simpa [doc] using ih
theorem document_is {l : List S33} (hl : l.length ≤ 1000000000) : ∃ k, horologelaw39_Document.f k l = some (l.map doc) := by
  have h := document_l l [] (by simpa using hl)
  obtain ⟨k, hk⟩ := Ev.ok h
  refine ⟨k, ?_⟩
  unfold horologelaw39_Document.f
  simpa using hk
theorem rsame_l (l : List S43) (hl : l.length ≤ 1000000000) : ∀ (n j : Nat), j + n = l.length → Ev (fun k => horologelaw39_same.l0 k l l (l.length : Int) (j : Int)) true
  | 0, j, h => by
    refine Ev.up ?_
    simp only [horologelaw39_same.l0]
    exact Ev.neg (by omega) (Ev.now _)
  | n + 1, j, h => by
    have hlt : j < l.length := by omega
    refine Ev.up ?_
    simp only [horologelaw39_same.l0]
    refine Ev.pos (by omega) (Ev.pos (by omega) (Ev.pos (by omega) (Ev.pos (by omega) (Ev.neg (by simp) ?_))))
    rw [nextw hlt (by omega)]
    exact rsame_l l hl n (j + 1) (by omega)
theorem rsame_is (l : List S43) (hl : l.length ≤ 1000000000) : ∃ k, horologelaw39_same.f k l l = some true := by
  have h := rsame_l l hl l.length 0 (by omega)
  obtain ⟨k, hk⟩ := Ev.ok h
  refine ⟨k, ?_⟩
  unfold horologelaw39_same.f
  rw [if_pos rfl]
  simpa using hk
end Go.Proofs.Ytecbahciplnhfaa
