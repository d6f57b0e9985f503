/- Texts as rows of numbers, cut and searched: plain facts for the reading of a text. No condition. -/
import Derived.Test.YtonjfggfcnpgbaaFigBase
import Derived.Laws.Externs
namespace Go.Proofs.Ytonjfggfcnpgbaa.Base
open Go.RowKit Go.Proofs.YtonjfggfcnpgbaaW.PrintWords Go.Proofs.YtonjfggfcnpgbaaW.PrintLast Go.Proofs.YtonjfggfcnpgbaaW.PrintMore
set_option linter.unusedVariables false
set_option linter.unusedSimpArgs false
/-- A row of bytes. -/
def Byt (l : List Int) : Prop := ∀ x ∈ l, 0 ≤ x ∧ x ≤ 255
theorem Byt.drop {l : List Int} (h : Byt l) (n : Nat) : Byt (l.drop n) := fun x hx => h x (List.mem_of_mem_drop hx)
theorem Byt.take {l : List Int} (h : Byt l) (n : Nat) : Byt (l.take n) := fun x hx => h x (List.mem_of_mem_take hx)
theorem byt_of (s : ByteArray) : Byt (bytesOf s) := by
  intro x hx
  unfold bytesOf at hx
  obtain ⟨b, _, rfl⟩ := List.mem_map.mp hx
  have := b.toNat_lt
  omega
theorem son_of (s : ByteArray) : strOfNums (bytesOf s) = s := by
  apply ByteArray.ext
  unfold strOfNums bytesOf
  rw [List.map_map]
  have : s.data.toList.map ((fun n : Int => UInt8.ofNat n.toNat) ∘ fun b : UInt8 => (b.toNat : Int)) = s.data.toList := by
    rw [show ((fun n : Int => UInt8.ofNat n.toNat) ∘ fun b : UInt8 => (b.toNat : Int)) = id by funext b; simp]
    exact List.map_id _
  show (s.data.toList.map ((fun n : Int => UInt8.ofNat n.toNat) ∘ fun b : UInt8 => (b.toNat : Int))).toArray = s.data
  rw [this]
theorem son_extract (l : List Int) (a b : Nat) : (strOfNums l).extract a b = strOfNums ((l.drop a).take (b - a)) := by
  apply ByteArray.ext
  unfold strOfNums
  simp [ByteArray.data_extract, List.extract_eq_take_drop, List.map_drop, List.map_take]
theorem son_cut (l : List Int) (a : Nat) : (strOfNums l).extract a (strOfNums l).size = strOfNums (l.drop a) := by
  rw [son_extract, son_size, List.take_of_length_le (by simp)]
theorem son_first (l : List Int) (n : Nat) : (strOfNums l).extract 0 n = strOfNums (l.take n) := by
  rw [son_extract, List.drop_zero]; rfl
theorem son_toList (l : List Int) : (strOfNums l).toList = l.map (fun x => UInt8.ofNat x.toNat) := by
  rw [ByteArray.toList_eq]
  simp [strOfNums]
theorem bt_at_son {l : List Int} (h : Byt l) {i : Nat} (hi : i < l.length) : bt (strOfNums l) i = l[i] := bt_son l i hi (h _ (List.getElem_mem hi))
theorem tw_all {p : Int → Bool} {l : List Int} (h : ∀ x ∈ l, p x = true) : l.takeWhile p = l := by
  induction l with
  | nil => rfl
  | cons a l ih => rw [List.takeWhile_cons, if_pos (h a (List.mem_cons_self ..)), ih (fun x hx => h x (List.mem_cons_of_mem _ hx))]
/-- How many of the first numbers are not one. -/
theorem idx_is (l : List Int) (h : Byt l) (c : Int) (hc : 0 ≤ c ∧ c ≤ 255) : Go.firstIdx (strOfNums l) c.toNat.toUInt8 = if (l.takeWhile (fun x => x != c)).length < l.length then ((l.takeWhile (fun x => x != c)).length : Int) else -1 := by
  have at_ : ∀ i, (hi : i < l.length) → ((strOfNums l)[i]! == c.toNat.toUInt8) = (l[i] == c) := by
    intro i hi
    have hs : i < (strOfNums l).size := by rw [son_size]; exact hi
    have e : (strOfNums l)[i]! = UInt8.ofNat (l[i]).toNat := by
      rw [getElem!_pos (strOfNums l) i hs]
      show (strOfNums l).data[i] = _
      simp only [strOfNums]
      simp
    rw [e]
    have hx := h _ (List.getElem_mem hi)
    rw [Bool.eq_iff_iff]
    simp only [beq_iff_eq]
    constructor
    · intro q
      have e := congrArg UInt8.toNat q
      simp only [UInt8.toNat_ofNat', Nat.toUInt8] at e
      omega
    · intro q; subst q; rfl
  unfold firstIdx
  by_cases hlt : (l.takeWhile (fun x => x != c)).length < l.length
  · rw [if_pos hlt]
    have hf : (List.range (strOfNums l).size).find? (fun i => (strOfNums l)[i]! == c.toNat.toUInt8) = some (l.takeWhile (fun x => x != c)).length := by
      rw [List.find?_range_eq_some, son_size]
      refine ⟨?_, List.mem_range.mpr hlt, ?_⟩
      · rw [at_ _ hlt]
        have hd : l.dropWhile (fun x => x != c) ≠ [] := by
          intro q
          have := congrArg List.length (List.takeWhile_append_dropWhile (p := fun x => x != c) (l := l))
          rw [q] at this; simp at this; omega
        have hh := List.head_dropWhile_not (p := fun x => x != c) hd
        have e : l[(l.takeWhile (fun x => x != c)).length] = (l.dropWhile (fun x => x != c)).head hd := by
          have : l[(l.takeWhile (fun x => x != c)).length]? = some ((l.dropWhile (fun x => x != c)).head hd) := by
            conv => lhs; arg 1; rw [← List.takeWhile_append_dropWhile (p := fun x => x != c) (l := l)]
            rw [List.getElem?_append_right (Nat.le_refl _), Nat.sub_self, ← List.head?_eq_getElem?, List.head?_eq_some_head hd]
          rw [List.getElem?_eq_getElem hlt] at this
          exact Option.some.inj this
        rw [e]; simpa using hh
      · intro j hj
        rw [at_ _ (by omega)]
        have hm := List.getElem_mem (l := l.takeWhile (fun x => x != c)) (n := j) hj
        have hp := List.all_takeWhile (p := fun x => x != c) (l := l)
        have hq := List.all_eq_true.mp hp _ hm
        have e : (l.takeWhile (fun x => x != c))[j] = l[j] := by
          have hpre := List.takeWhile_prefix (fun x => x != c) (l := l)
          exact hpre.getElem hj
        rw [e] at hq
        simpa using hq
    rw [hf]
  · rw [if_neg hlt]
    have hall : l.takeWhile (fun x => x != c) = l := (List.takeWhile_prefix _).eq_of_length_le (by omega)
    have hf : (List.range (strOfNums l).size).find? (fun i => (strOfNums l)[i]! == c.toNat.toUInt8) = none := by
      rw [List.find?_range_eq_none, son_size]
      intro j hj
      rw [at_ _ hj]
      have hp := List.all_takeWhile (p := fun x => x != c) (l := l)
      rw [hall] at hp
      have := List.all_eq_true.mp hp _ (List.getElem_mem hj)
      simpa using this
    rw [hf]
theorem idx_mem (l : List Int) (h : Byt l) (c : Int) (hc : 0 ≤ c ∧ c ≤ 255) : Go.firstIdx (strOfNums l) c.toNat.toUInt8 ≥ 0 ↔ c ∈ l := by
  rw [idx_is l h c hc]
  constructor
  · intro q
    by_cases hm : c ∈ l
    · exact hm
    · have : l.takeWhile (fun x => x != c) = l := by
        apply tw_all
        intro a ha
        simp only [bne_iff_ne, ne_eq]
        intro e; exact hm (e ▸ ha)
      rw [this, if_neg (by omega)] at q
      omega
  · intro q
    by_cases hlt : (l.takeWhile (fun x => x != c)).length < l.length
    · rw [if_pos hlt]; omega
    · have hall : l.takeWhile (fun x => x != c) = l := (List.takeWhile_prefix _).eq_of_length_le (by omega)
      have hp := List.all_takeWhile (p := fun x => x != c) (l := l)
      rw [hall] at hp
      have := List.all_eq_true.mp hp c q
      simp at this
end Go.Proofs.Ytonjfggfcnpgbaa.Base
