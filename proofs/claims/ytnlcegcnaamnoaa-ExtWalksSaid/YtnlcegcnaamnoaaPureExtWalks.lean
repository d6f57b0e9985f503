/- ExtWalks, the plain part: the walk answers as the document's does. For every version and text of bytes; no further condition. -/
import Derived.Test.YtnlcegcnaamnoaaMExtWalksx
import Derived.Test.YtnlcegcnaamnoaaBase
namespace Go.Proofs.Ytnlcegcnaamnoaa.MExtWalks
open Go.RowKit Go.Proofs.YtnlcegcnaamnoaaW.PrintWords Go.Proofs.YtnlcegcnaamnoaaW.PrintLast Go.Proofs.YtnlcegcnaamnoaaW.PrintMore Go.Proofs.Ytnlcegcnaamnoaa.Base
set_option linter.unusedVariables false
set_option linter.unusedSimpArgs false

/- numbers of two bytes, a field, and the walk -/
theorem or_join {x y : Int} {s : Nat} (hs : s ≤ 64) (h0 : 0 ≤ x) (h1 : x < 18446744073709551616) (hm : x % 2 ^ s = 0) (g0 : 0 ≤ y) (g1 : y < 2 ^ s) : Go.bits .or .u64 x y = x + y :=
  bits_join .u64 64 (by simp [IntKind.bits]) (fun m a b => by rw [wrap_u64]; omega) s x y h0 hm h1 g0 g1 (Int.lt_of_lt_of_le g1 (pow_le_of hs))
def Byte (x : Int) : Prop := 0 ≤ x ∧ x ≤ 255
theorem byte_of {x : Int} (h : (Lit.int .u8 x).wf = true) : Byte x := bounds_u8 h
theorem u16_of {x : Int} (h : (Lit.int .u16 x).wf = true) : 0 ≤ x ∧ x ≤ 65535 := bounds_u16 h
theorem size16_is : Ev (fun k => octets_Size_uint16.f k) 2 := Ev.of (fun k => octets_Size_uint16.mono k) (k := 8) (by kernel_rfl)
theorem or_byte {x y : Int} (hx : 0 ≤ x ∧ x < 72057594037927936) (hy : Byte y) : Go.bits .or .u64 (IntKind.u64.wrap (x * 256)) (IntKind.u64.wrap y) = x * 256 + y := by
  unfold Byte at hy
  rw [wrap_u64, wrap_u64, show x * 256 % 18446744073709551616 = x * 256 by omega, show y % 18446744073709551616 = y by omega]
  exact or_join (s := 8) (by decide) (by omega) (by omega) (by show x * 256 % 256 = 0; omega) (by omega) (by show y < 256; omega)
theorem word16_is {a b : Int} (ha : Byte a) (hb : Byte b) : Ev (fun k => octets_word_uint16.f k [a, b]) (a * 256 + b) := by
  have e1 : Go.bits .or .u64 (IntKind.u64.wrap (0 * 256)) (IntKind.u64.wrap (rd [a, b] 0)) = a := by
    rw [show rd [a, b] 0 = a from rfl, or_byte (by omega) ha]; omega
  have e2 : Go.bits .or .u64 (IntKind.u64.wrap (a * 256)) (IntKind.u64.wrap (rd [a, b] 1)) = a * 256 + b := by
    rw [show rd [a, b] 1 = b from rfl, or_byte (by unfold Byte at ha; omega) hb]
  show Ev (fun k => octets_word_uint16.l0 k 0 [a, b] 2 0) _
  refine Ev.up ?_
  simp only [octets_word_uint16.l0]
  refine Ev.pos (by decide) (Ev.pos (by decide) (Ev.pos (by simp) ?_))
  rw [e1, show wrap64 (0 + 1) = 1 by unfold wrap64; omega]
  refine Ev.up ?_
  simp only [octets_word_uint16.l0]
  refine Ev.pos (by decide) (Ev.pos (by decide) (Ev.pos (by simp) ?_))
  rw [e2, show wrap64 (1 + 1) = 2 by unfold wrap64; omega]
  refine Ev.up ?_
  simp only [octets_word_uint16.l0]
  refine Ev.neg (by decide) ?_
  rw [wrap_u16, show (a * 256 + b) % 65536 = a * 256 + b by unfold Byte at ha hb; omega]
  exact Ev.now _
theorem list16_short {l : List Int} (h : l.length < 4) : Ev (fun k => octets_List_uint16.f k l 0 2) ([], some 4) := by
  unfold octets_List_uint16.f
  refine Ev.bind size16_is ?_
  exact Ev.pos ⟨rfl, by omega⟩ (Ev.neg (by decide) (Ev.neg (by omega) (Ev.neg (by decide) (Ev.pos (by omega) (Ev.now _)))))
theorem list16_is {a b c d : Int} {r : List Int} (ha : Byte a) (hb : Byte b) (hc : Byte c) (hd : Byte d) (h : (a :: b :: c :: d :: r).length < 35184372088832) : Ev (fun k => octets_List_uint16.f k (a :: b :: c :: d :: r) 0 2) ([a * 256 + b, c * 256 + d], none) := by
  unfold octets_List_uint16.f
  refine Ev.bind size16_is ?_
  refine Ev.pos ⟨rfl, h⟩ (Ev.neg (by decide) (Ev.neg (by omega) (Ev.neg (by decide) (Ev.neg (by simp only [List.length_cons]; omega) ?_))))
  refine Ev.bind (a := [a * 256 + b, c * 256 + d]) ?_ (Ev.now _)
  show Ev (fun k => ((some []).bind fun xs => (octets_word_uint16.f k [a, b]).bind fun x => some (xs ++ [x])).bind fun xs => (octets_word_uint16.f k [c, d]).bind fun x => some (xs ++ [x])) _
  refine Ev.bind (a := [a * 256 + b]) (Ev.bindc rfl (Ev.bind (word16_is ha hb) (Ev.now _))) ?_
  exact Ev.bind (word16_is hc hd) (Ev.now _)
theorem longS_is (w : Int) : ext_long.f w = some (decide (16 ≤ w ∧ w % 4 = 0)) := by
  unfold ext_long.f
  by_cases h : 16 ≤ w
  · rw [if_pos h, Int.tmod_eq_emod_of_nonneg (by omega)]
    by_cases g : w % 4 = 0
    · simp [g, h]
    · simp [g]
  · rw [if_neg h]; simp [h]
def fieldS : List Int → Option (S41 × List Int)
  | a :: b :: c :: d :: r => if 16 ≤ c * 256 + d ∧ (c * 256 + d) % 4 = 0 ∧ c * 256 + d ≤ (r.length : Int) + 4 then some (⟨a * 256 + b, r.take (c * 256 + d - 4).toNat⟩, r.drop (c * 256 + d - 4).toNat) else none
  | _ => none
theorem field_is {l : List Int} (hl : 4 ≤ l.length) (hb : ∀ y ∈ l, Byte y) (h : l.length < 35184372088832) :
    Ev (fun k => ext_field.f k l) (match fieldS l with | some (x, r) => (x.f0, x.f1, r, none) | none => (0, [], [], some 2)) := by
  match l, hl with
  | a :: b :: c :: d :: r, _ =>
  have ha := hb a (by simp)
  have hb' := hb b (by simp)
  have hc := hb c (by simp)
  have hd := hb d (by simp)
  unfold ext_field.f
  refine Ev.bind (list16_is ha hb' hc hd h) ?_
  have e1 : wrap64 (rd [a * 256 + b, c * 256 + d] 1) = c * 256 + d := by
    rw [show rd [a * 256 + b, c * 256 + d] 1 = c * 256 + d from rfl]; unfold Byte at hc hd; unfold wrap64; omega
  have e0 : rd [a * 256 + b, c * 256 + d] 0 = a * 256 + b := rfl
  simp only [e1, e0]
  refine Ev.pos rfl (Ev.pos (by simp) ?_)
  rw [longS_is]
  refine Ev.bindc rfl ?_
  by_cases g : 16 ≤ c * 256 + d ∧ (c * 256 + d) % 4 = 0
  · rw [decide_eq_true g]
    refine Ev.pos rfl ?_
    by_cases g2 : c * 256 + d ≤ (r.length : Int) + 4
    · have e : fieldS (a :: b :: c :: d :: r) = some (⟨a * 256 + b, r.take (c * 256 + d - 4).toNat⟩, r.drop (c * 256 + d - 4).toNat) := by
        simp only [fieldS]; rw [if_pos ⟨g.1, g.2, g2⟩]
      rw [e]
      simp only [List.length_cons] at h ⊢
      refine Ev.neg (by omega) (Ev.pos (by simp) (Ev.pos (by omega) (Ev.pos (by omega) ?_)))
      obtain ⟨n, hn⟩ : ∃ n : Nat, c * 256 + d = (n : Int) + 4 := ⟨(c * 256 + d - 4).toNat, by omega⟩
      have e3 : (c * 256 + d).toNat = n + 1 + 1 + 1 + 1 := by omega
      have e4 : (c * 256 + d - 4).toNat = n := by omega
      rw [e3, e4]
      simp only [List.take_succ_cons, List.drop_succ_cons, List.drop_zero]
      have hcl : slices_Clone_byte_byte.f (r.take n) = some (r.take n) := by
        unfold slices_Clone_byte_byte.f; rw [if_pos (by rw [List.length_take]; omega)]
      exact Ev.bindc hcl (Ev.pos (by omega) (Ev.now _))
    · have e : fieldS (a :: b :: c :: d :: r) = none := by simp only [fieldS]; rw [if_neg (fun q => g2 q.2.2)]
      rw [e]
      exact Ev.pos (by simp only [List.length_cons]; omega) (Ev.now _)
  · have e : fieldS (a :: b :: c :: d :: r) = none := by simp only [fieldS]; rw [if_neg (fun q => g ⟨q.1, q.2.1⟩)]
    rw [e, decide_eq_false g]
    exact Ev.neg (by decide) (Ev.now _)
def encF (x : S41) : List Int := (x.f0 / 256) :: (x.f0 % 256) :: ((4 + (x.f1.length : Int)) / 256) :: ((4 + (x.f1.length : Int)) % 256) :: x.f1
def enc (xs : List S41) (t : List Int) : List Int := xs.flatMap encF ++ t
def okF (x : S41) : Prop := (0 ≤ x.f0 ∧ x.f0 ≤ 65535) ∧ (∀ y ∈ x.f1, Byte y) ∧ 12 ≤ x.f1.length ∧ x.f1.length % 4 = 0 ∧ x.f1.length ≤ 65531
theorem fieldS_some {l : List Int} {x : S41} {r : List Int} (hb : ∀ y ∈ l, Byte y) (h : fieldS l = some (x, r)) : l = encF x ++ r ∧ okF x := by
  match l, h with
  | a :: b :: c :: d :: r0, h =>
  have ha := hb a (by simp)
  have hb' := hb b (by simp)
  have hc := hb c (by simp)
  have hd := hb d (by simp)
  unfold Byte at ha hb' hc hd
  simp only [fieldS] at h
  by_cases g : 16 ≤ c * 256 + d ∧ (c * 256 + d) % 4 = 0 ∧ c * 256 + d ≤ (r0.length : Int) + 4
  · rw [if_pos g] at h
    obtain ⟨rfl, rfl⟩ := Prod.mk.inj (Option.some.inj h)
    have hl : (r0.take (c * 256 + d - 4).toNat).length = (c * 256 + d - 4).toNat := by rw [List.length_take]; omega
    refine ⟨?_, ⟨by show 0 ≤ a * 256 + b; omega, by show a * 256 + b ≤ 65535; omega⟩, fun y hy => hb y (by have := List.mem_of_mem_take hy; simp [this]), by show 12 ≤ (r0.take _).length; omega, by show (r0.take _).length % 4 = 0; omega, by show (r0.take _).length ≤ 65531; omega⟩
    simp only [encF, List.cons_append, List.take_append_drop, hl]
    congr 1
    · omega
    congr 1
    · omega
    congr 1
    · omega
    congr 1
    · omega
  · rw [if_neg g] at h; cases h
  | [], h => cases h
  | [_], h => cases h
  | [_, _], h => cases h
  | [_, _, _], h => cases h
def mayB (a n : Int) : Bool := (ext_may.f a n).getD false
theorem may_is (a n : Int) : ext_may.f a n = some (mayB a n) := by
  unfold mayB
  have : ∃ b, ext_may.f a n = some b := by
    unfold ext_may.f
    repeat' split
    all_goals exact ⟨_, rfl⟩
  obtain ⟨b, hb⟩ := this
  rw [hb]; rfl
def walkS (a : Int) : Nat → List S41 → List Int → Option (List S41 × List Int)
  | 0, _, _ => none
  | n + 1, acc, l => if a = 4 ∧ 24 < l.length then (match fieldS l with | some (x, r) => walkS a n (acc ++ [x]) r | none => none) else if mayB a (l.length : Int) then some (acc, l) else none
def walkR : Option (List S41 × List Int) → List S41 × List Int × Option Int
  | some (xs, t) => (xs, t, none)
  | none => ([], [], some 2)
theorem encF_length (x : S41) : (encF x).length = x.f1.length + 4 := by simp [encF]
theorem walkS_is (a : Int) : ∀ (n : Nat) (acc : List S41) (l : List Int), l.length < n → (∀ y ∈ l, Byte y) → l.length ≤ 65535 → acc.length + l.length < 4398046511104 → Ev (fun k => ext_Walk.l0 k a l acc) (walkR (walkS a n acc l))
  | 0, _, _, h, _, _, _ => by omega
  | n + 1, acc, l, hn, hb, hl, ha => by
    have tail : ¬ (a = 4 ∧ 24 < l.length) → Ev (fun k => ext_Walk.j1 k a l false acc) (walkR (walkS a (n + 1) acc l)) := by
      intro g
      refine Ev.up ?_
      simp only [ext_Walk.j1, walkS]
      refine Ev.neg (by decide) ?_
      rw [if_neg g]
      refine Ev.bindc (may_is _ _) ?_
      cases hm : mayB a (l.length : Int) with
      | true =>
        have hcl : slices_Clone_byte_byte.f l = some l := by
          unfold slices_Clone_byte_byte.f; rw [if_pos (by omega)]
        exact Ev.pos rfl (Ev.bindc hcl (Ev.now _))
      | false => exact Ev.neg (by decide) (Ev.now _)
    refine Ev.up ?_
    simp only [ext_Walk.l0]
    by_cases g4 : a = 4
    · refine Ev.pos g4 ?_
      by_cases g : 24 < l.length
      · rw [decide_eq_true (by omega : (l.length : Int) > 24)]
        refine Ev.up ?_
        simp only [ext_Walk.j1, walkS]
        refine Ev.pos (by first | trivial | rfl) ?_
        rw [if_pos ⟨g4, g⟩]
        refine Ev.bind (field_is (by omega) hb (by omega)) ?_
        cases hf : fieldS l with
        | none => exact Ev.neg (by simp) (Ev.now _)
        | some p =>
          obtain ⟨x, r⟩ := p
          obtain ⟨e, ok⟩ := fieldS_some hb hf
          have hlr : l.length = x.f1.length + 4 + r.length := by rw [e, List.length_append, encF_length]
          refine Ev.pos (by first | trivial | rfl) (Ev.pos (by omega) ?_)
          exact walkS_is a n (acc ++ [x]) r (by omega) (fun y hy => hb y (by rw [e]; simp [hy])) (by omega) (by simp; omega)
      · rw [decide_eq_false (by omega : ¬ (l.length : Int) > 24)]
        exact tail (fun q => g q.2)
    · exact Ev.neg g4 (tail (fun q => g4 q.1))
theorem walkS_some (a : Int) : ∀ (n : Nat) (acc : List S41) (l : List Int) (xs : List S41) (t : List Int), (∀ y ∈ l, Byte y) → walkS a n acc l = some (xs, t) → ∃ ys, xs = acc ++ ys ∧ enc ys t = l ∧ (∀ y ∈ ys, okF y) ∧ (a ≠ 4 → ys = [])
  | 0, _, _, _, _, _, h => by simp [walkS] at h
  | n + 1, acc, l, xs, t, hb, h => by
    simp only [walkS] at h
    by_cases g : a = 4 ∧ 24 < l.length
    · rw [if_pos g] at h
      cases hf : fieldS l with
      | none => rw [hf] at h; cases h
      | some p =>
        obtain ⟨x, r⟩ := p
        rw [hf] at h
        obtain ⟨e, ok⟩ := fieldS_some hb hf
        obtain ⟨ys, h1, h2, h3, h4⟩ := walkS_some a n (acc ++ [x]) r xs t (fun y hy => hb y (by rw [e]; simp [hy])) h
        refine ⟨x :: ys, by rw [h1]; simp, ?_, ?_, fun q => absurd g.1 q⟩
        · rw [e, ← h2]; simp [enc]
        · intro y hy
          rcases List.mem_cons.1 hy with rfl | hy
          · exact ok
          · exact h3 y hy
    · rw [if_neg g] at h
      by_cases hm : mayB a (l.length : Int) = true
      · rw [if_pos hm] at h
        obtain ⟨rfl, rfl⟩ := Prod.mk.inj (Option.some.inj h)
        exact ⟨[], by simp, by simp [enc], by simp, fun _ => rfl⟩
      · rw [if_neg hm] at h; cases h
def known (a : Int) : Prop := 1 ≤ a ∧ a ≤ 4
instance (a : Int) : Decidable (known a) := inferInstanceAs (Decidable (_ ∧ _))
theorem known_is (a : Int) : ext_known.f a = some (decide (known a)) := by
  unfold ext_known.f known
  by_cases h : a ≥ 1
  · rw [if_pos h]; simp [show 1 ≤ a from h]
  · rw [if_neg h]; simp [show ¬ 1 ≤ a from h]
def walkC (a : Int) (l : List Int) : List S41 × List Int × Option Int :=
  if known a then (if 65487 < l.length then ([], [], some 3) else walkR (walkS a (l.length + 1) [] l)) else ([], [], some 11)
theorem walk_is (a : Int) (l : List Int) (hb : ∀ y ∈ l, Byte y) : Ev (fun k => ext_Walk.f k a l) (walkC a l) := by
  unfold ext_Walk.f walkC
  refine Ev.bindc (known_is a) ?_
  by_cases h : known a
  · rw [decide_eq_true h, if_pos h]
    refine Ev.pos rfl ?_
    by_cases g : 65487 < l.length
    · rw [if_pos g]; exact Ev.pos (by omega) (Ev.now _)
    · rw [if_neg g]
      exact Ev.neg (by omega) (walkS_is a (l.length + 1) [] l (by omega) hb (by omega) (by simp; omega))
  · rw [decide_eq_false h, if_neg h]
    exact Ev.neg (by decide) (Ev.now _)
theorem walkC_ok {a : Int} {l : List Int} {xs : List S41} {t : List Int} (hb : ∀ y ∈ l, Byte y) (h : walkC a l = (xs, t, none)) : known a ∧ l.length ≤ 65487 ∧ enc xs t = l ∧ (∀ x ∈ xs, okF x) ∧ (a ≠ 4 → xs = []) := by
  unfold walkC at h
  by_cases hk : known a
  · rw [if_pos hk] at h
    by_cases g : 65487 < l.length
    · rw [if_pos g] at h; cases h
    · rw [if_neg g] at h
      cases hw : walkS a (l.length + 1) [] l with
      | none => rw [hw] at h; cases h
      | some p =>
        obtain ⟨ys, u⟩ := p
        rw [hw] at h
        obtain ⟨rfl, h2⟩ := Prod.mk.inj h
        obtain ⟨rfl, _⟩ := Prod.mk.inj h2
        obtain ⟨zs, h1, h3, h4, h5⟩ := walkS_some a _ _ _ _ _ hb hw
        simp at h1
        subst h1
        exact ⟨hk, by omega, h3, h4, h5⟩
  · rw [if_neg hk] at h; cases h
theorem walkC_err {a : Int} {l : List Int} {xs : List S41} {t : List Int} {c : Int} (h : walkC a l = (xs, t, some c)) : xs = [] ∧ t = [] ∧ (c = 2 ∨ c = 11 ∨ (c = 3 ∧ 65487 < l.length)) := by
  unfold walkC at h
  by_cases hk : known a
  · rw [if_pos hk] at h
    by_cases g : 65487 < l.length
    · rw [if_pos g] at h; cases h; exact ⟨rfl, rfl, .inr (.inr ⟨rfl, g⟩)⟩
    · rw [if_neg g] at h
      cases hw : walkS a (l.length + 1) [] l with
      | none => rw [hw] at h; cases h; exact ⟨rfl, rfl, .inl rfl⟩
      | some p => rw [hw] at h; cases h
  · rw [if_neg hk] at h; cases h; exact ⟨rfl, rfl, .inr (.inl rfl)⟩
theorem rd41_mid (pre ys : List S41) (y : S41) : rd_T41 (pre ++ y :: ys) (pre.length : Int) = y := by unfold rd_T41; simp
def extAlike (x y : S41) : Bool := x.f0 == y.f0 && ((strOfNums x.f1).toList == (strOfNums y.f1).toList)
def extSames : List S41 → List S41 → Bool
  | x :: r, y :: s => extAlike x y && extSames r s
  | _, _ => true
/- which tails are the same -/
def sameB (xs : List S41) (t : List Int) (ys : List S41) (u : List Int) : Bool := if xs.length = ys.length then (if extSames xs ys = true then ((strOfNums t).toList == (strOfNums u).toList) else false) else false
theorem sames_refl : ∀ xs : List S41, extSames xs xs = true
  | [] => rfl
  | x :: xs => by simp [extSames, extAlike, sames_refl xs]
theorem sameB_refl (xs : List S41) (t : List Int) : sameB xs t xs t = true := by
  unfold sameB
  rw [if_pos rfl, if_pos (sames_refl xs)]; simp
theorem alive_is : Ev (fun k => horologelaw29_alive.f k) true := Ev.of (fun k => horologelaw29_alive.mono k) (k := 60) (by kernel_rfl)
/- the document's tails -/
def doc (x : S41) : S69 := ⟨x.f0, x.f1⟩
theorem next_is {α : Type} {pre : List α} {y : α} (h : pre.length < 4398046511104) : wrap64 ((pre.length : Int) + 1) = ((pre ++ [y]).length : Int) := by
  rw [wrap64_id (by unfold I64; omega)]; simp
theorem doc_l0 (t : List Int) : ∀ (ys pre : List S41) (acc : List S69), pre.length + ys.length < 4398046511104 → acc.length + ys.length < 4398046511104 → Ev (fun k => horologelaw29_Document.l0 k (pre ++ ys) ((pre ++ ys).length : Int) (pre.length : Int) acc t) (acc ++ ys.map doc, t)
  | [], pre, acc, _, _ => by
    refine Ev.up ?_
    simp only [horologelaw29_Document.l0]
    exact Ev.neg (by simp) (Ev.cast (Ev.now _) (by simp))
  | y :: ys, pre, acc, h, h2 => by
    simp only [List.length_cons] at h h2
    refine Ev.up ?_
    simp only [horologelaw29_Document.l0]
    refine Ev.pos (by simp only [List.length_append, List.length_cons]; omega) (Ev.pos (by omega) (Ev.pos (by simp only [List.length_append, List.length_cons]; omega) (Ev.pos (by omega) ?_)))
    rw [rd41_mid, next_is (y := y) (by omega), show pre ++ y :: ys = (pre ++ [y]) ++ ys by simp]
    exact Ev.cast (doc_l0 t ys (pre ++ [y]) (acc ++ [doc y]) (by simp; omega) (by simp; omega)) (by simp)
theorem doc_is (xs : List S41) (t : List Int) (h : xs.length < 4398046511104) : Ev (fun k => horologelaw29_Document.f k xs t) (xs.map doc, t) := by
  unfold horologelaw29_Document.f
  exact Ev.cast (doc_l0 t xs [] [] (by simp; omega) (by simp; omega)) (by simp)
theorem rd69_mid (pre ys : List S69) (y : S69) : rd_T69 (pre ++ y :: ys) (pre.length : Int) = y := by unfold rd_T69; simp
theorem rsame_l0 (t u : List Int) : ∀ (xs ys : List S41) (p q : List S69), p.length = q.length → xs.length = ys.length → p.length + xs.length < 4398046511104 → Ev (fun k => horologeref29_Same.l0 k (p.length : Int) (p ++ xs.map doc) t (q ++ ys.map doc) u) (extSames xs ys)
  | [], [], p, q, _, _, _ => by
    refine Ev.up ?_
    simp only [horologeref29_Same.l0]
    exact Ev.neg (by simp) (Ev.now _)
  | x :: xs, [], p, q, _, h, _ => by simp at h
  | [], y :: ys, p, q, _, h, _ => by simp at h
  | x :: xs, y :: ys, p, q, hpq, h, hl => by
    simp only [List.length_cons] at h hl
    have r1 : rd_T69 (p ++ (x :: xs).map doc) (p.length : Int) = doc x := by rw [List.map_cons, rd69_mid]
    have r2 : rd_T69 (q ++ (y :: ys).map doc) (p.length : Int) = doc y := by rw [hpq, List.map_cons, rd69_mid]
    refine Ev.up ?_
    simp only [horologeref29_Same.l0]
    refine Ev.pos (by simp only [List.length_append, List.length_map, List.length_cons]; omega) (Ev.pos (by omega) (Ev.pos (by simp only [List.length_append, List.length_map, List.length_cons]; omega) ?_))
    rw [r1, r2]
    by_cases c1 : x.f0 = y.f0
    · refine Ev.pos c1 ?_
      by_cases c2 : (strOfNums x.f1).toList = (strOfNums y.f1).toList
      · refine Ev.pos c2 ?_
        rw [next_is (y := doc x) (by omega), List.map_cons, List.map_cons, show p ++ doc x :: xs.map doc = (p ++ [doc x]) ++ xs.map doc by simp, show q ++ doc y :: ys.map doc = (q ++ [doc y]) ++ ys.map doc by simp]
        refine Ev.cast (rsame_l0 t u xs ys (p ++ [doc x]) (q ++ [doc y]) (by simp [hpq]) (by omega) (by simp; omega)) ?_
        simp [extSames, extAlike, c1, c2]
      · exact Ev.neg c2 (Ev.cast (Ev.now _) (by simp [extSames, extAlike, c2]))
    · exact Ev.neg c1 (Ev.cast (Ev.now _) (by simp [extSames, extAlike, c1]))
theorem rsame_is (xs : List S41) (t : List Int) (ys : List S41) (u : List Int) (h : xs.length < 4398046511104) : Ev (fun k => horologeref29_Same.f k (xs.map doc) t (ys.map doc) u) (sameB xs t ys u) := by
  unfold horologeref29_Same.f sameB
  simp only [List.length_map]
  by_cases c : xs.length = ys.length
  · rw [if_pos c]
    refine Ev.pos (by omega) (Ev.up ?_)
    simp only [horologeref29_Same.j0]
    by_cases e : (strOfNums t).toList = (strOfNums u).toList
    · refine Ev.neg (by simp [e]) ?_
      refine Ev.cast (rsame_l0 t u xs ys [] [] rfl c (by simp; omega)) ?_
      cases extSames xs ys <;> simp [e]
    · refine Ev.pos (by simp [e]) (Ev.cast (Ev.now _) ?_)
      cases extSames xs ys <;> simp [e]
  · rw [if_neg c]
    refine Ev.neg (by omega) (Ev.up ?_)
    simp only [horologeref29_Same.j0]
    exact Ev.pos (by first | trivial | rfl) (Ev.now _)
/- the document's walk -/
theorem value2_is {c d : Int} (hc : Byte c) (hd : Byte d) : Ev (fun k => horologeref03_Value.f k [c, d]) (c * 256 + d) := by
  unfold Byte at hc hd
  unfold horologeref03_Value.f
  refine Ev.up ?_
  simp only [horologeref03_Value.l0]
  refine Ev.pos (by simp) (Ev.pos (by decide) ?_)
  rw [show rd [c, d] 0 = c from rfl, show wrap64 (0 + 1) = 1 by unfold wrap64; omega, show IntKind.u64.wrap (IntKind.u64.wrap (0 * 256) + IntKind.u64.wrap c) = c by rw [wrap_u64, wrap_u64, wrap_u64]; omega]
  refine Ev.up ?_
  simp only [horologeref03_Value.l0]
  refine Ev.pos (by simp) (Ev.pos (by decide) ?_)
  rw [show rd [c, d] 1 = d from rfl, show wrap64 (1 + 1) = 2 by unfold wrap64; omega, show IntKind.u64.wrap (IntKind.u64.wrap (c * 256) + IntKind.u64.wrap d) = c * 256 + d by rw [wrap_u64, wrap_u64, wrap_u64]; omega]
  refine Ev.up ?_
  simp only [horologeref03_Value.l0]
  exact Ev.neg (by simp) (Ev.now _)
theorem rd_mid (pre ys : List Int) (y : Int) : rd (pre ++ y :: ys) (pre.length : Int) = y := by unfold rd; simp
theorem seal_l0 (x : Int) : ∀ (ys pre : List Int), pre.length + ys.length < 1000 → Ev (fun k => horologeref29_seal.l0 k x (pre ++ ys) (pre.length : Int)) (ys.any (fun y => decide (y = x)))
  | [], pre, _ => by
    refine Ev.up ?_
    simp only [horologeref29_seal.l0]
    exact Ev.neg (by simp) (Ev.now _)
  | y :: ys, pre, h => by
    simp only [List.length_cons] at h
    refine Ev.up ?_
    simp only [horologeref29_seal.l0]
    refine Ev.pos (by simp only [List.length_append, List.length_cons]; omega) (Ev.pos (by omega) ?_)
    rw [rd_mid]
    by_cases c : y = x
    · exact Ev.pos c (Ev.cast (Ev.now _) (by simp [c]))
    · refine Ev.neg c ?_
      rw [next_is (y := y) (by omega), show pre ++ y :: ys = (pre ++ [y]) ++ ys by simp]
      exact Ev.cast (seal_l0 x ys (pre ++ [y]) (by simp; omega)) (by simp [c])
theorem seal_is {a : Int} (ha : known a) (n : Int) : Ev (fun k => horologeref29_seal.f k a n) (mayB a n) := by
  unfold known at ha
  have step : ∀ (L : List Int), L.length < 100 → Ev (fun k => horologeref29_seal.j1 k n L) (L.any (fun y => decide (y = n))) := by
    intro L hL
    refine Ev.up ?_
    simp only [horologeref29_seal.j1]
    exact seal_l0 n L [] (by simp; omega)
  have hm : ∀ b : Bool, ext_may.f a n = some b → mayB a n = b := fun b h => by unfold mayB; rw [h]; rfl
  unfold horologeref29_seal.f
  by_cases c2 : a ≤ 2
  · refine Ev.pos c2 (Ev.up ?_)
    simp only [horologeref29_seal.j0]
    refine Ev.neg (by omega) (Ev.cast (step [0, 12] (by decide)) (hm _ ?_).symm)
    unfold ext_may.f
    by_cases e0 : n = 0
    · rw [if_pos e0]; simp [e0]
    · rw [if_neg e0, if_pos (by omega)]
      by_cases e1 : n = 12
      · simp [e1]
      · simp [e1, Ne.symm e0, Ne.symm e1]
  · refine Ev.neg c2 (Ev.up ?_)
    simp only [horologeref29_seal.j0]
    by_cases c3 : a = 3
    · refine Ev.pos c3 (Ev.cast (step [0, 12, 20, 24] (by decide)) (hm _ ?_).symm)
      unfold ext_may.f
      by_cases e0 : n = 0
      · rw [if_pos e0]; simp [e0]
      rw [if_neg e0, if_neg (by omega), if_pos c3]
      by_cases e1 : n = 12
      · rw [if_pos e1]; simp [e1]
      rw [if_neg e1]
      by_cases e2 : n = 20
      · rw [if_pos e2]; simp [e2]
      rw [if_neg e2]
      by_cases e3 : n = 24
      · simp [e3]
      · simp [e3, Ne.symm e0, Ne.symm e1, Ne.symm e2, Ne.symm e3]
    · refine Ev.neg c3 (Ev.cast (step [0, 4, 20, 24] (by decide)) (hm _ ?_).symm)
      unfold ext_may.f
      by_cases e0 : n = 0
      · rw [if_pos e0]; simp [e0]
      rw [if_neg e0, if_neg (by omega), if_neg c3]
      by_cases e1 : n = 4
      · rw [if_pos e1]; simp [e1]
      rw [if_neg e1]
      by_cases e2 : n = 20
      · rw [if_pos e2]; simp [e2]
      rw [if_neg e2]
      by_cases e3 : n = 24
      · simp [e3]
      · simp [e3, Ne.symm e0, Ne.symm e1, Ne.symm e2, Ne.symm e3]
theorem mid_cut (P m : List Int) (i j : Nat) : ((P ++ m).take (P.length + j)).drop (P.length + i) = (m.take j).drop i := by
  rw [List.take_length_add_append, List.drop_length_add_append]
def rconv : Option (List S41 × List Int) → List S69 × List Int × Int
  | some (xs, t) => (xs.map doc, t, 0)
  | none => ([], [], 2)
theorem rwalk_j3 {a : Int} (ha : known a) (P m : List Int) (acc : List S41) (hl : (P ++ m).length ≤ 65535) : Ev (fun k => horologeref29_Walk.j3 k a (P ++ m) (P.length : Int) (acc.map doc)) (if mayB a (m.length : Int) then (acc.map doc, m, 0) else ([], [], 2)) := by
  rw [List.length_append] at hl
  refine Ev.up ?_
  simp only [horologeref29_Walk.j3]
  have e : wrap64 (((P ++ m).length : Int) - (P.length : Int)) = (m.length : Int) := by
    rw [List.length_append, wrap64_id (by unfold I64; omega)]; omega
  rw [e]
  refine Ev.bind (seal_is ha _) ?_
  cases mayB a (m.length : Int) with
  | true => exact Ev.pos (by first | trivial | rfl) (Ev.pos (by omega) (Ev.pos (by rw [List.length_append]; omega) (Ev.cast (Ev.now _) (by simp))))
  | false => exact Ev.neg (by decide) (Ev.now _)
theorem n1_ {P m : List Int} (h : 2 ≤ m.length) : ((P.length + 2 : Nat) : Int) ≤ ((P ++ m).length : Int) := by rw [List.length_append]; omega
theorem n2_ {P m : List Int} {u : Nat} (h : u + 4 ≤ m.length) : ((P.length + (u + 4) : Nat) : Int) ≤ ((P ++ m).length : Int) := by rw [List.length_append]; omega
theorem n3_ {acc : List S41} {k : Nat} (h : acc.length + k < 4398046511104) : (acc.map doc).length < 4398046511104 := by rw [List.length_map]; omega
theorem n4_ {r : List Int} {u n : Nat} (h : r.length + 1 + 1 + 1 + 1 < n + 1) : (r.drop u).length < n := by rw [List.length_drop]; omega
theorem n5_ {acc : List S41} {x : S41} {r : List Int} {u : Nat} (h : acc.length + (r.length + 1 + 1 + 1 + 1) < 4398046511104) : (acc ++ [x]).length + (r.drop u).length < 4398046511104 := by rw [List.length_drop, List.length_append, List.length_singleton]; omega
theorem walkS_succ (a : Int) (n : Nat) (acc : List S41) (l : List Int) : walkS a (n + 1) acc l = if a = 4 ∧ 24 < l.length then (match fieldS l with | some (x, r) => walkS a n (acc ++ [x]) r | none => none) else if mayB a (l.length : Int) then some (acc, l) else none := rfl
set_option maxHeartbeats 4000000 in
theorem rwalk_l0 : ∀ (n : Nat) (m P : List Int) (acc : List S41), m.length < n → (∀ y ∈ m, Byte y) → (P ++ m).length ≤ 65535 → acc.length + m.length < 4398046511104 →
    Ev (fun k => horologeref29_Walk.l0 k 4 (P ++ m) (P.length : Int) (acc.map doc)) (rconv (walkS 4 n acc m))
  | 0, _, _, _, h, _, _, _ => by omega
  | n + 1, m, P, acc, hn, hb, hl, ha => by
    have hl' := hl
    rw [List.length_append] at hl
    have ew : wrap64 (((P ++ m).length : Int) - (P.length : Int)) = (m.length : Int) := by
      rw [List.length_append, wrap64_id (by unfold I64; omega)]; omega
    have w2 : wrap64 ((P.length : Int) + 2) = ((P.length + 2 : Nat) : Int) := by rw [wrap64_id (by unfold I64; omega)]; omega
    have w4 : wrap64 ((P.length : Int) + 4) = ((P.length + 4 : Nat) : Int) := by rw [wrap64_id (by unfold I64; omega)]; omega
    refine Ev.up ?_
    simp only [horologeref29_Walk.l0]
    rw [ew, w2, w4, walkS_succ]
    by_cases g : 24 < m.length
    · rw [if_pos (c := (4 : Int) = 4 ∧ 24 < m.length) ⟨rfl, g⟩]
      refine Ev.pos (by omega) (Ev.pos (by omega) (Ev.pos (by omega) (Ev.pos (by rw [List.length_append]; omega) ?_)))
      rw [Int.toNat_natCast, Int.toNat_natCast, mid_cut]
      match m, hb, hn, hl', hl, ew, ha, g with
      | p :: q :: c :: d :: r, hb, hn, hl', hl, ew, ha, g =>
        have hp := hb p (by simp)
        have hq := hb q (by simp)
        have hc := hb c (by simp)
        have hd := hb d (by simp)
        have hwb : 0 ≤ c * 256 + d ∧ c * 256 + d ≤ 65535 := by unfold Byte at hc hd; omega
        simp only [List.length_cons] at hl ha hn
        refine Ev.bind (value2_is hc hd) ?_
        have e1 : wrap64 (c * 256 + d) = c * 256 + d := wrap64_id (by unfold I64; omega)
        rw [e1]
        have bad : fieldS (p :: q :: c :: d :: r) = none → Ev (fun k => horologeref29_Walk.j2 k 4 (P ++ p :: q :: c :: d :: r) (P.length : Int) (c * 256 + d) true (acc.map doc)) (rconv (match fieldS (p :: q :: c :: d :: r) with | some (x, r) => walkS 4 n (acc ++ [x]) r | none => none)) := by
          intro h
          rw [h]
          refine Ev.up ?_
          simp only [horologeref29_Walk.j2]
          exact Ev.pos (by first | trivial | rfl) (Ev.now _)
        by_cases k1 : c * 256 + d < 16
        · exact Ev.pos k1 (bad (by simp only [fieldS]; rw [if_neg (by omega)]))
        refine Ev.neg k1 ?_
        rw [Int.tmod_eq_emod_of_nonneg (by omega)]
        by_cases k2 : (c * 256 + d) % 4 = 0
        case neg => exact Ev.neg k2 (bad (by simp only [fieldS]; rw [if_neg (by omega)]))
        refine Ev.pos k2 ?_
        have e3 : wrap64 ((P.length : Int) + (c * 256 + d)) = (P.length : Int) + (c * 256 + d) := wrap64_id (by unfold I64; omega)
        rw [e3]
        by_cases k3 : c * 256 + d ≤ (r.length : Int) + 4
        case neg =>
          rw [decide_eq_true (by simp only [List.length_append, List.length_cons]; omega : (P.length : Int) + (c * 256 + d) > ((P ++ p :: q :: c :: d :: r).length : Int))]
          exact bad (by simp only [fieldS]; rw [if_neg (by omega)])
        rw [decide_eq_false (by simp only [List.length_append, List.length_cons]; omega : ¬ (P.length : Int) + (c * 256 + d) > ((P ++ p :: q :: c :: d :: r).length : Int))]
        have hf : fieldS (p :: q :: c :: d :: r) = some (⟨p * 256 + q, r.take (c * 256 + d - 4).toNat⟩, r.drop (c * 256 + d - 4).toNat) := by
          simp only [fieldS]; rw [if_pos ⟨by omega, k2, k3⟩]
        rw [hf]
        obtain ⟨u, hu⟩ : ∃ u : Nat, c * 256 + d = ((u + 4 : Nat) : Int) := ⟨(c * 256 + d - 4).toNat, by omega⟩
        have e4 : (c * 256 + d - 4).toNat = u := by omega
        rw [e4]
        rw [hu] at e3 ⊢
        refine Ev.up ?_
        simp only [horologeref29_Walk.j2]
        rw [w2, w4, e3]
        have e5 : (P.length : Int) + ((u + 4 : Nat) : Int) = ((P.length + (u + 4) : Nat) : Int) := by omega
        rw [e5]
        have hru : u ≤ r.length := by clear ew w2 w4 e1 e3 e5 hp hq hc hd; omega
        refine Ev.neg (by decide) (Ev.pos (Int.natCast_nonneg _) (Ev.pos (Int.ofNat_le.2 (Nat.le_add_right _ _)) (Ev.pos (n1_ (by simp only [List.length_cons]; exact Nat.le_add_left _ _)) ?_)))
        have c1 : ((P ++ p :: q :: c :: d :: r).take (((P.length + 2 : Nat) : Int)).toNat).drop ((P.length : Int)).toNat = [p, q] := by
          rw [Int.toNat_natCast, Int.toNat_natCast]
          have := mid_cut P (p :: q :: c :: d :: r) 0 2
          simpa using this
        have c2 : ((P ++ p :: q :: c :: d :: r).take (((P.length + (u + 4) : Nat) : Int)).toNat).drop (((P.length + 4 : Nat) : Int)).toNat = r.take u := by
          rw [Int.toNat_natCast, Int.toNat_natCast, mid_cut]
          rfl
        rw [c1, c2]
        refine Ev.bind (value2_is hp hq) ?_
        refine Ev.pos (Int.natCast_nonneg _) (Ev.pos (Int.ofNat_le.2 (Nat.add_le_add_left (Nat.le_add_left 4 u) _)) (Ev.pos (n2_ (by simp only [List.length_cons]; exact Nat.add_le_add_right hru 4)) (Ev.pos (n3_ ha) ?_)))
        have e6 : IntKind.u16.wrap (p * 256 + q) = p * 256 + q := by rw [wrap_u16]; unfold Byte at hp hq; omega
        rw [e6]
        have e7 : P ++ p :: q :: c :: d :: r = (P ++ (p :: q :: c :: d :: r.take u)) ++ r.drop u := by simp
        have e8 : ((P.length + (u + 4) : Nat) : Int) = ((P ++ (p :: q :: c :: d :: r.take u)).length : Int) := by
          simp only [List.length_append, List.length_cons, List.length_take]; omega
        have e9 : (acc.map doc ++ [(⟨p * 256 + q, r.take u⟩ : S69)]) = (acc ++ [(⟨p * 256 + q, r.take u⟩ : S41)]).map doc := by simp [doc]
        rw [e7] at hl' ⊢
        rw [e8, e9]
        exact rwalk_l0 n (r.drop u) _ _ (n4_ hn) (fun y hy => hb y (by have := List.mem_of_mem_drop hy; simp [this])) hl' (n5_ ha)
    · rw [if_neg (c := (4 : Int) = 4 ∧ 24 < m.length) (fun q => g q.2)]
      refine Ev.neg (by omega) (Ev.cast (rwalk_j3 (by decide) P m acc hl') ?_)
      by_cases hm : mayB 4 (m.length : Int) = true
      · rw [if_pos hm, if_pos hm]; rfl
      · rw [if_neg hm, if_neg hm]; rfl
def rwalkC (a : Int) (l : List Int) : List S69 × List Int × Int := ((walkC a l).1.map doc, (walkC a l).2.1, (walkC a l).2.2.getD 0)
theorem rwalk_is {a : Int} (ha : known a) (l : List Int) (hb : ∀ y ∈ l, Byte y) (hl : l.length ≤ 65487) : Ev (fun k => horologeref29_Walk.f k a l) (rwalkC a l) := by
  have hk := ha
  unfold known at ha
  have hw : walkC a l = walkR (walkS a (l.length + 1) [] l) := by unfold walkC; rw [if_pos hk, if_neg (by omega)]
  have hc : rwalkC a l = rconv (walkS a (l.length + 1) [] l) := by
    unfold rwalkC
    rw [hw]
    cases walkS a (l.length + 1) [] l with
    | none => rfl
    | some p => rfl
  rw [hc]
  unfold horologeref29_Walk.f
  refine Ev.neg (by omega) (Ev.up ?_)
  simp only [horologeref29_Walk.j0]
  refine Ev.neg (by rw [decide_eq_false (by omega)]; decide) (Ev.neg (by omega) ?_)
  by_cases c4 : a = 4
  · refine Ev.pos c4 ?_
    subst c4
    exact rwalk_l0 (l.length + 1) l [] [] (by omega) hb (by simp; omega) (by simp; omega)
  · refine Ev.neg c4 ?_
    refine Ev.cast (rwalk_j3 hk [] l [] (by simp; omega)) ?_
    rw [walkS_succ, if_neg (c := a = 4 ∧ 24 < l.length) (fun q => c4 q.1)]
    by_cases hm : mayB a (l.length : Int) = true
    · rw [if_pos hm, if_pos hm]; rfl
    · rw [if_neg hm, if_neg hm]; rfl
theorem rwalk_all (a : Int) (l : List Int) (hb : ∀ y ∈ l, Byte y) : Ev (fun k => horologeref29_Walk.f k a l) (rwalkC a l) := by
  by_cases hk : known a
  · by_cases hl : l.length ≤ 65487
    · exact rwalk_is hk l hb hl
    · have hk' := hk
      unfold known at hk'
      have e : rwalkC a l = ([], [], 3) := by unfold rwalkC walkC; rw [if_pos hk, if_pos (by omega)]; rfl
      rw [e]
      unfold horologeref29_Walk.f
      refine Ev.neg (by omega) (Ev.up ?_)
      simp only [horologeref29_Walk.j0]
      exact Ev.neg (by rw [decide_eq_false (by omega)]; decide) (Ev.pos (by omega) (Ev.now _))
  · have hk' : ¬ (1 ≤ a ∧ a ≤ 4) := hk
    have e : rwalkC a l = ([], [], 11) := by unfold rwalkC walkC; rw [if_neg hk]; rfl
    rw [e]
    have h11 : Ev (fun k => horologeref29_Walk.j0 k a l true) ([], [], 11) := by
      refine Ev.up ?_
      simp only [horologeref29_Walk.j0]
      exact Ev.pos (by first | trivial | rfl) (Ev.now _)
    unfold horologeref29_Walk.f
    by_cases c : a < 1
    · exact Ev.pos c h11
    · refine Ev.neg c ?_
      rw [decide_eq_true (by omega : a > 4)]
      exact h11
/-- All that the law's walk is told. -/
theorem all_is (a : Int) (l : List Int) (hb : ∀ y ∈ l, Byte y) : ∃ (k : Nat) (xs : List S41) (t : List Int) (c : Option Int) (d : Int), horologelaw29_alive.f k = some true ∧ ext_Walk.f k a l = some (xs, t, c) ∧ horologeref29_Walk.f k a l = some (xs.map doc, t, d) ∧
    horologenum_Num.f c = some d ∧ horologelaw29_Document.f k xs t = some (xs.map doc, t) ∧ horologeref29_Same.f k (xs.map doc) t (xs.map doc) t = some true := by
  have hlen : (walkC a l).1.length ≤ 65487 := by
    cases hw : walkC a l with
    | mk xs p =>
    obtain ⟨t, c⟩ := p
    cases c with
    | none =>
      obtain ⟨_, h1, he, _, _⟩ := walkC_ok hb hw
      have : ∀ zs : List S41, zs.length ≤ (zs.flatMap encF).length := by
        intro zs
        induction zs with
        | nil => simp
        | cons y zs ih => rw [List.flatMap_cons, List.length_append, encF_length, List.length_cons]; omega
      have h3 := this xs
      have h2 : (enc xs t).length = (xs.flatMap encF).length + t.length := by unfold enc; rw [List.length_append]
      rw [he] at h2
      show xs.length ≤ 65487
      omega
    | some c => obtain ⟨rfl, _, _⟩ := walkC_err hw; simp
  have hnum : horologenum_Num.f (walkC a l).2.2 = some ((walkC a l).2.2.getD 0) := by
    cases hw : walkC a l with
    | mk xs p =>
    obtain ⟨t, c⟩ := p
    cases c with
    | none => rfl
    | some c =>
      obtain ⟨_, _, hc⟩ := walkC_err hw
      unfold horologenum_Num.f
      rcases hc with rfl | rfl | ⟨rfl, _⟩ <;> rfl
  have h1 := alive_is
  have h2 := walk_is a l hb
  have h3 := rwalk_all a l hb
  have h4 := doc_is (walkC a l).1 (walkC a l).2.1 (by omega)
  have h5 := rsame_is (walkC a l).1 (walkC a l).2.1 (walkC a l).1 (walkC a l).2.1 (by omega)
  rw [sameB_refl] at h5
  obtain ⟨k1, h1⟩ := h1
  obtain ⟨k2, h2⟩ := h2
  obtain ⟨k3, h3⟩ := h3
  obtain ⟨k4, h4⟩ := h4
  obtain ⟨k5, h5⟩ := h5
  refine ⟨k1 + k2 + k3 + k4 + k5, _, _, _, _, h1 _ (by omega), h2 _ (by omega), h3 _ (by omega), hnum, h4 _ (by omega), h5 _ (by omega)⟩
end Go.Proofs.Ytnlcegcnaamnoaa.MExtWalks
