/- Texts as rows of numbers, cut and searched: plain facts for the reading of a text. No condition. -/
import Derived.Test.YtnjeemghkpgcfaaFigBase
import Derived.Laws.Externs
namespace Go.Proofs.Ytnjeemghkpgcfaa.Base
open Go.RowKit Go.Proofs.YtnjeemghkpgcfaaW.PrintWords Go.Proofs.YtnjeemghkpgcfaaW.PrintLast Go.Proofs.YtnjeemghkpgcfaaW.PrintMore
set_option linter.unusedVariables false
set_option linter.unusedSimpArgs false
/-- A row of bytes. -/
def Byt (l : List Int) : Prop := ∀ x ∈ l, 0 ≤ x ∧ x ≤ 255
theorem Byt.drop {l : List Int} (h : Byt l) (n : Nat) : Byt (l.drop n) := fun x hx => h x (List.mem_of_mem_drop hx)
theorem Byt.take {l : List Int} (h : Byt l) (n : Nat) : Byt (l.take n) := fun x hx => h x (List.mem_of_mem_take hx)
theorem Byt.tail {x : Int} {l : List Int} (h : Byt (x :: l)) : Byt l := fun y hy => h y (List.mem_cons_of_mem _ hy)
theorem Byt.head {x : Int} {l : List Int} (h : Byt (x :: l)) : 0 ≤ x ∧ x ≤ 255 := h x (List.mem_cons_self ..)
theorem byt_of (s : ByteArray) : Byt (bytesOf s) := by
  intro x hx
  unfold bytesOf at hx
  obtain ⟨b, _, rfl⟩ := List.mem_map.mp hx
  have := b.toNat_lt
  omega
theorem son_of (s : ByteArray) : strOfNums (bytesOf s) = s := by
  apply ByteArray.ext
  unfold strOfNums bytesOf
  rw [List.map_map]
  have : s.data.toList.map ((fun n : Int => UInt8.ofNat n.toNat) ∘ fun b : UInt8 => (b.toNat : Int)) = s.data.toList := by
    rw [show ((fun n : Int => UInt8.ofNat n.toNat) ∘ fun b : UInt8 => (b.toNat : Int)) = id by funext b; simp]
    exact List.map_id _
  show (s.data.toList.map ((fun n : Int => UInt8.ofNat n.toNat) ∘ fun b : UInt8 => (b.toNat : Int))).toArray = s.data
  rw [this]
theorem son_extract (l : List Int) (a b : Nat) : (strOfNums l).extract a b = strOfNums ((l.drop a).take (b - a)) := by
  apply ByteArray.ext
  unfold strOfNums
  simp [ByteArray.data_extract, List.extract_eq_take_drop, List.map_drop, List.map_take]
theorem son_cut (l : List Int) (a : Nat) : (strOfNums l).extract a (strOfNums l).size = strOfNums (l.drop a) := by
  rw [son_extract, son_size, List.take_of_length_le (by simp)]
theorem son_first (l : List Int) (n : Nat) : (strOfNums l).extract 0 n = strOfNums (l.take n) := by
  rw [son_extract, List.drop_zero]; rfl
theorem son_toList (l : List Int) : (strOfNums l).toList = l.map (fun x => UInt8.ofNat x.toNat) := by
  rw [ByteArray.toList_eq]
  simp [strOfNums]
theorem son_inj {a b : List Int} (ha : Byt a) (hb : Byt b) (h : (strOfNums a).toList = (strOfNums b).toList) : a = b := by
  rw [son_toList, son_toList] at h
  induction a generalizing b with
  | nil => cases b with
    | nil => rfl
    | cons y b => simp at h
  | cons x a ih =>
    cases b with
    | nil => simp at h
    | cons y b =>
      simp only [List.map_cons, List.cons.injEq] at h
      have hx := ha.head
      have hy := hb.head
      have e := congrArg UInt8.toNat h.1
      simp only [UInt8.toNat_ofNat'] at e
      rw [ih ha.tail hb.tail h.2, show x = y by omega]
theorem bt_at_son {l : List Int} (h : Byt l) {i : Nat} (hi : i < l.length) : bt (strOfNums l) i = l[i] := bt_son l i hi (h _ (List.getElem_mem hi))
theorem tw_all {p : Int → Bool} {l : List Int} (h : ∀ x ∈ l, p x = true) : l.takeWhile p = l := by
  induction l with
  | nil => rfl
  | cons a l ih => rw [List.takeWhile_cons, if_pos (h a (List.mem_cons_self ..)), ih (fun x hx => h x (List.mem_cons_of_mem _ hx))]
end Go.Proofs.Ytnjeemghkpgcfaa.Base
