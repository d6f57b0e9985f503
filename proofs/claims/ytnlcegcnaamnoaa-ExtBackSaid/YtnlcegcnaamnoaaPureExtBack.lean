/- ExtBack: Walk and Put undo one another. For every version, tail and text of bytes; no further condition. -/
import Derived.Test.YtnlcegcnaamnoaaMExtBackx
import Derived.Test.YtnlcegcnaamnoaaBase
namespace Go.Proofs.Ytnlcegcnaamnoaa.MExtBack
open Go.RowKit Go.Proofs.YtnlcegcnaamnoaaW.PrintWords Go.Proofs.YtnlcegcnaamnoaaW.PrintLast Go.Proofs.YtnlcegcnaamnoaaW.PrintMore Go.Proofs.Ytnlcegcnaamnoaa.Base
set_option linter.unusedVariables false
set_option linter.unusedSimpArgs false

/- numbers of two bytes, a field, and the walk -/
theorem or_join {x y : Int} {s : Nat} (hs : s ≤ 64) (h0 : 0 ≤ x) (h1 : x < 18446744073709551616) (hm : x % 2 ^ s = 0) (g0 : 0 ≤ y) (g1 : y < 2 ^ s) : Go.bits .or .u64 x y = x + y :=
  bits_join .u64 64 (by simp [IntKind.bits]) (fun m a b => by rw [wrap_u64]; omega) s x y h0 hm h1 g0 g1 (Int.lt_of_lt_of_le g1 (pow_le_of hs))
def Byte (x : Int) : Prop := 0 ≤ x ∧ x ≤ 255
theorem byte_of {x : Int} (h : (Lit.int .u8 x).wf = true) : Byte x := bounds_u8 h
theorem u16_of {x : Int} (h : (Lit.int .u16 x).wf = true) : 0 ≤ x ∧ x ≤ 65535 := bounds_u16 h
theorem size16_is : Ev (fun k => octets_Size_uint16.f k) 2 := Ev.of (fun k => octets_Size_uint16.mono k) (k := 8) (by kernel_rfl)
theorem or_byte {x y : Int} (hx : 0 ≤ x ∧ x < 72057594037927936) (hy : Byte y) : Go.bits .or .u64 (IntKind.u64.wrap (x * 256)) (IntKind.u64.wrap y) = x * 256 + y := by
  unfold Byte at hy
  rw [wrap_u64, wrap_u64, show x * 256 % 18446744073709551616 = x * 256 by omega, show y % 18446744073709551616 = y by omega]
  exact or_join (s := 8) (by decide) (by omega) (by omega) (by show x * 256 % 256 = 0; omega) (by omega) (by show y < 256; omega)
theorem word16_is {a b : Int} (ha : Byte a) (hb : Byte b) : Ev (fun k => octets_word_uint16.f k [a, b]) (a * 256 + b) := by
  have e1 : Go.bits .or .u64 (IntKind.u64.wrap (0 * 256)) (IntKind.u64.wrap (rd [a, b] 0)) = a := by
    rw [show rd [a, b] 0 = a from rfl, or_byte (by omega) ha]; omega
  have e2 : Go.bits .or .u64 (IntKind.u64.wrap (a * 256)) (IntKind.u64.wrap (rd [a, b] 1)) = a * 256 + b := by
    rw [show rd [a, b] 1 = b from rfl, or_byte (by unfold Byte at ha; omega) hb]
  show Ev (fun k => octets_word_uint16.l0 k 0 [a, b] 2 0) _
  refine Ev.up ?_
  simp only [octets_word_uint16.l0]
  refine Ev.pos (by decide) (Ev.pos (by decide) (Ev.pos (by simp) ?_))
  rw [e1, show wrap64 (0 + 1) = 1 by unfold wrap64; omega]
  refine Ev.up ?_
  simp only [octets_word_uint16.l0]
  refine Ev.pos (by decide) (Ev.pos (by decide) (Ev.pos (by simp) ?_))
  rw [e2, show wrap64 (1 + 1) = 2 by unfold wrap64; omega]
  refine Ev.up ?_
  simp only [octets_word_uint16.l0]
  refine Ev.neg (by decide) ?_
  rw [wrap_u16, show (a * 256 + b) % 65536 = a * 256 + b by unfold Byte at ha hb; omega]
  exact Ev.now _
theorem list16_short {l : List Int} (h : l.length < 4) : Ev (fun k => octets_List_uint16.f k l 0 2) ([], some 4) := by
  unfold octets_List_uint16.f
  refine Ev.bind size16_is ?_
  exact Ev.pos ⟨rfl, by omega⟩ (Ev.neg (by decide) (Ev.neg (by omega) (Ev.neg (by decide) (Ev.pos (by omega) (Ev.now _)))))
theorem list16_is {a b c d : Int} {r : List Int} (ha : Byte a) (hb : Byte b) (hc : Byte c) (hd : Byte d) (h : (a :: b :: c :: d :: r).length < 35184372088832) : Ev (fun k => octets_List_uint16.f k (a :: b :: c :: d :: r) 0 2) ([a * 256 + b, c * 256 + d], none) := by
  unfold octets_List_uint16.f
  refine Ev.bind size16_is ?_
  refine Ev.pos ⟨rfl, h⟩ (Ev.neg (by decide) (Ev.neg (by omega) (Ev.neg (by decide) (Ev.neg (by simp only [List.length_cons]; omega) ?_))))
  refine Ev.bind (a := [a * 256 + b, c * 256 + d]) ?_ (Ev.now _)
  show Ev (fun k => ((some []).bind fun xs => (octets_word_uint16.f k [a, b]).bind fun x => some (xs ++ [x])).bind fun xs => (octets_word_uint16.f k [c, d]).bind fun x => some (xs ++ [x])) _
  refine Ev.bind (a := [a * 256 + b]) (Ev.bindc rfl (Ev.bind (word16_is ha hb) (Ev.now _))) ?_
  exact Ev.bind (word16_is hc hd) (Ev.now _)
theorem longS_is (w : Int) : ext_long.f w = some (decide (16 ≤ w ∧ w % 4 = 0)) := by
  unfold ext_long.f
  by_cases h : 16 ≤ w
  · rw [if_pos h, Int.tmod_eq_emod_of_nonneg (by omega)]
    by_cases g : w % 4 = 0
    · simp [g, h]
    · simp [g]
  · rw [if_neg h]; simp [h]
def fieldS : List Int → Option (S41 × List Int)
  | a :: b :: c :: d :: r => if 16 ≤ c * 256 + d ∧ (c * 256 + d) % 4 = 0 ∧ c * 256 + d ≤ (r.length : Int) + 4 then some (⟨a * 256 + b, r.take (c * 256 + d - 4).toNat⟩, r.drop (c * 256 + d - 4).toNat) else none
  | _ => none
theorem field_is {l : List Int} (hl : 4 ≤ l.length) (hb : ∀ y ∈ l, Byte y) (h : l.length < 35184372088832) :
    Ev (fun k => ext_field.f k l) (match fieldS l with | some (x, r) => (x.f0, x.f1, r, none) | none => (0, [], [], some 2)) := by
  match l, hl with
  | a :: b :: c :: d :: r, _ =>
  have ha := hb a (by simp)
  have hb' := hb b (by simp)
  have hc := hb c (by simp)
  have hd := hb d (by simp)
  unfold ext_field.f
  refine Ev.bind (list16_is ha hb' hc hd h) ?_
  have e1 : wrap64 (rd [a * 256 + b, c * 256 + d] 1) = c * 256 + d := by
    rw [show rd [a * 256 + b, c * 256 + d] 1 = c * 256 + d from rfl]; unfold Byte at hc hd; unfold wrap64; omega
  have e0 : rd [a * 256 + b, c * 256 + d] 0 = a * 256 + b := rfl
  simp only [e1, e0]
  refine Ev.pos rfl (Ev.pos (by simp) ?_)
  rw [longS_is]
  refine Ev.bindc rfl ?_
  by_cases g : 16 ≤ c * 256 + d ∧ (c * 256 + d) % 4 = 0
  · rw [decide_eq_true g]
    refine Ev.pos rfl ?_
    by_cases g2 : c * 256 + d ≤ (r.length : Int) + 4
    · have e : fieldS (a :: b :: c :: d :: r) = some (⟨a * 256 + b, r.take (c * 256 + d - 4).toNat⟩, r.drop (c * 256 + d - 4).toNat) := by
        simp only [fieldS]; rw [if_pos ⟨g.1, g.2, g2⟩]
      rw [e]
      simp only [List.length_cons] at h ⊢
      refine Ev.neg (by omega) (Ev.pos (by simp) (Ev.pos (by omega) (Ev.pos (by omega) ?_)))
      obtain ⟨n, hn⟩ : ∃ n : Nat, c * 256 + d = (n : Int) + 4 := ⟨(c * 256 + d - 4).toNat, by omega⟩
      have e3 : (c * 256 + d).toNat = n + 1 + 1 + 1 + 1 := by omega
      have e4 : (c * 256 + d - 4).toNat = n := by omega
      rw [e3, e4]
      simp only [List.take_succ_cons, List.drop_succ_cons, List.drop_zero]
      have hcl : slices_Clone_byte_byte.f (r.take n) = some (r.take n) := by
        unfold slices_Clone_byte_byte.f; rw [if_pos (by rw [List.length_take]; omega)]
      exact Ev.bindc hcl (Ev.pos (by omega) (Ev.now _))
    · have e : fieldS (a :: b :: c :: d :: r) = none := by simp only [fieldS]; rw [if_neg (fun q => g2 q.2.2)]
      rw [e]
      exact Ev.pos (by simp only [List.length_cons]; omega) (Ev.now _)
  · have e : fieldS (a :: b :: c :: d :: r) = none := by simp only [fieldS]; rw [if_neg (fun q => g ⟨q.1, q.2.1⟩)]
    rw [e, decide_eq_false g]
    exact Ev.neg (by decide) (Ev.now _)
def encF (x : S41) : List Int := (x.f0 / 256) :: (x.f0 % 256) :: ((4 + (x.f1.length : Int)) / 256) :: ((4 + (x.f1.length : Int)) % 256) :: x.f1
def enc (xs : List S41) (t : List Int) : List Int := xs.flatMap encF ++ t
def okF (x : S41) : Prop := (0 ≤ x.f0 ∧ x.f0 ≤ 65535) ∧ (∀ y ∈ x.f1, Byte y) ∧ 12 ≤ x.f1.length ∧ x.f1.length % 4 = 0 ∧ x.f1.length ≤ 65531
theorem fieldS_some {l : List Int} {x : S41} {r : List Int} (hb : ∀ y ∈ l, Byte y) (h : fieldS l = some (x, r)) : l = encF x ++ r ∧ okF x := by
  match l, h with
  | a :: b :: c :: d :: r0, h =>
  have ha := hb a (by simp)
  have hb' := hb b (by simp)
  have hc := hb c (by simp)
  have hd := hb d (by simp)
  unfold Byte at ha hb' hc hd
  simp only [fieldS] at h
  by_cases g : 16 ≤ c * 256 + d ∧ (c * 256 + d) % 4 = 0 ∧ c * 256 + d ≤ (r0.length : Int) + 4
  · rw [if_pos g] at h
    obtain ⟨rfl, rfl⟩ := Prod.mk.inj (Option.some.inj h)
    have hl : (r0.take (c * 256 + d - 4).toNat).length = (c * 256 + d - 4).toNat := by rw [List.length_take]; omega
    refine ⟨?_, ⟨by show 0 ≤ a * 256 + b; omega, by show a * 256 + b ≤ 65535; omega⟩, fun y hy => hb y (by have := List.mem_of_mem_take hy; simp [this]), by show 12 ≤ (r0.take _).length; omega, by show (r0.take _).length % 4 = 0; omega, by show (r0.take _).length ≤ 65531; omega⟩
    simp only [encF, List.cons_append, List.take_append_drop, hl]
    congr 1
    · omega
    congr 1
    · omega
    congr 1
    · omega
    congr 1
    · omega
  · rw [if_neg g] at h; cases h
  | [], h => cases h
  | [_], h => cases h
  | [_, _], h => cases h
  | [_, _, _], h => cases h
def mayB (a n : Int) : Bool := (ext_may.f a n).getD false
theorem may_is (a n : Int) : ext_may.f a n = some (mayB a n) := by
  unfold mayB
  have : ∃ b, ext_may.f a n = some b := by
    unfold ext_may.f
    repeat' split
    all_goals exact ⟨_, rfl⟩
  obtain ⟨b, hb⟩ := this
  rw [hb]; rfl
def walkS (a : Int) : Nat → List S41 → List Int → Option (List S41 × List Int)
  | 0, _, _ => none
  | n + 1, acc, l => if a = 4 ∧ 24 < l.length then (match fieldS l with | some (x, r) => walkS a n (acc ++ [x]) r | none => none) else if mayB a (l.length : Int) then some (acc, l) else none
def walkR : Option (List S41 × List Int) → List S41 × List Int × Option Int
  | some (xs, t) => (xs, t, none)
  | none => ([], [], some 2)
theorem encF_length (x : S41) : (encF x).length = x.f1.length + 4 := by simp [encF]
theorem walkS_is (a : Int) : ∀ (n : Nat) (acc : List S41) (l : List Int), l.length < n → (∀ y ∈ l, Byte y) → l.length ≤ 65535 → acc.length + l.length < 4398046511104 → Ev (fun k => ext_Walk.l0 k a l acc) (walkR (walkS a n acc l))
  | 0, _, _, h, _, _, _ => by omega
  | n + 1, acc, l, hn, hb, hl, ha => by
    have tail : ¬ (a = 4 ∧ 24 < l.length) → Ev (fun k => ext_Walk.j1 k a l false acc) (walkR (walkS a (n + 1) acc l)) := by
      intro g
      refine Ev.up ?_
      simp only [ext_Walk.j1, walkS]
      refine Ev.neg (by decide) ?_
      rw [if_neg g]
      refine Ev.bindc (may_is _ _) ?_
      cases hm : mayB a (l.length : Int) with
      | true =>
        have hcl : slices_Clone_byte_byte.f l = some l := by
          unfold slices_Clone_byte_byte.f; rw [if_pos (by omega)]
        exact Ev.pos rfl (Ev.bindc hcl (Ev.now _))
      | false => exact Ev.neg (by decide) (Ev.now _)
    refine Ev.up ?_
    simp only [ext_Walk.l0]
    by_cases g4 : a = 4
    · refine Ev.pos g4 ?_
      by_cases g : 24 < l.length
      · rw [decide_eq_true (by omega : (l.length : Int) > 24)]
        refine Ev.up ?_
        simp only [ext_Walk.j1, walkS]
        refine Ev.pos (by first | trivial | rfl) ?_
        rw [if_pos ⟨g4, g⟩]
        refine Ev.bind (field_is (by omega) hb (by omega)) ?_
        cases hf : fieldS l with
        | none => exact Ev.neg (by simp) (Ev.now _)
        | some p =>
          obtain ⟨x, r⟩ := p
          obtain ⟨e, ok⟩ := fieldS_some hb hf
          have hlr : l.length = x.f1.length + 4 + r.length := by rw [e, List.length_append, encF_length]
          refine Ev.pos (by first | trivial | rfl) (Ev.pos (by omega) ?_)
          exact walkS_is a n (acc ++ [x]) r (by omega) (fun y hy => hb y (by rw [e]; simp [hy])) (by omega) (by simp; omega)
      · rw [decide_eq_false (by omega : ¬ (l.length : Int) > 24)]
        exact tail (fun q => g q.2)
    · exact Ev.neg g4 (tail (fun q => g4 q.1))
theorem walkS_some (a : Int) : ∀ (n : Nat) (acc : List S41) (l : List Int) (xs : List S41) (t : List Int), (∀ y ∈ l, Byte y) → walkS a n acc l = some (xs, t) → ∃ ys, xs = acc ++ ys ∧ enc ys t = l ∧ (∀ y ∈ ys, okF y) ∧ (a ≠ 4 → ys = [])
  | 0, _, _, _, _, _, h => by simp [walkS] at h
  | n + 1, acc, l, xs, t, hb, h => by
    simp only [walkS] at h
    by_cases g : a = 4 ∧ 24 < l.length
    · rw [if_pos g] at h
      cases hf : fieldS l with
      | none => rw [hf] at h; cases h
      | some p =>
        obtain ⟨x, r⟩ := p
        rw [hf] at h
        obtain ⟨e, ok⟩ := fieldS_some hb hf
        obtain ⟨ys, h1, h2, h3, h4⟩ := walkS_some a n (acc ++ [x]) r xs t (fun y hy => hb y (by rw [e]; simp [hy])) h
        refine ⟨x :: ys, by rw [h1]; simp, ?_, ?_, fun q => absurd g.1 q⟩
        · rw [e, ← h2]; simp [enc]
        · intro y hy
          rcases List.mem_cons.1 hy with rfl | hy
          · exact ok
          · exact h3 y hy
    · rw [if_neg g] at h
      by_cases hm : mayB a (l.length : Int) = true
      · rw [if_pos hm] at h
        obtain ⟨rfl, rfl⟩ := Prod.mk.inj (Option.some.inj h)
        exact ⟨[], by simp, by simp [enc], by simp, fun _ => rfl⟩
      · rw [if_neg hm] at h; cases h
def known (a : Int) : Prop := 1 ≤ a ∧ a ≤ 4
instance (a : Int) : Decidable (known a) := inferInstanceAs (Decidable (_ ∧ _))
theorem known_is (a : Int) : ext_known.f a = some (decide (known a)) := by
  unfold ext_known.f known
  by_cases h : a ≥ 1
  · rw [if_pos h]; simp [show 1 ≤ a from h]
  · rw [if_neg h]; simp [show ¬ 1 ≤ a from h]
def walkC (a : Int) (l : List Int) : List S41 × List Int × Option Int :=
  if known a then (if 65487 < l.length then ([], [], some 3) else walkR (walkS a (l.length + 1) [] l)) else ([], [], some 11)
theorem walk_is (a : Int) (l : List Int) (hb : ∀ y ∈ l, Byte y) : Ev (fun k => ext_Walk.f k a l) (walkC a l) := by
  unfold ext_Walk.f walkC
  refine Ev.bindc (known_is a) ?_
  by_cases h : known a
  · rw [decide_eq_true h, if_pos h]
    refine Ev.pos rfl ?_
    by_cases g : 65487 < l.length
    · rw [if_pos g]; exact Ev.pos (by omega) (Ev.now _)
    · rw [if_neg g]
      exact Ev.neg (by omega) (walkS_is a (l.length + 1) [] l (by omega) hb (by omega) (by simp; omega))
  · rw [decide_eq_false h, if_neg h]
    exact Ev.neg (by decide) (Ev.now _)
theorem walkC_ok {a : Int} {l : List Int} {xs : List S41} {t : List Int} (hb : ∀ y ∈ l, Byte y) (h : walkC a l = (xs, t, none)) : known a ∧ l.length ≤ 65487 ∧ enc xs t = l ∧ (∀ x ∈ xs, okF x) ∧ (a ≠ 4 → xs = []) := by
  unfold walkC at h
  by_cases hk : known a
  · rw [if_pos hk] at h
    by_cases g : 65487 < l.length
    · rw [if_pos g] at h; cases h
    · rw [if_neg g] at h
      cases hw : walkS a (l.length + 1) [] l with
      | none => rw [hw] at h; cases h
      | some p =>
        obtain ⟨ys, u⟩ := p
        rw [hw] at h
        obtain ⟨rfl, h2⟩ := Prod.mk.inj h
        obtain ⟨rfl, _⟩ := Prod.mk.inj h2
        obtain ⟨zs, h1, h3, h4, h5⟩ := walkS_some a _ _ _ _ _ hb hw
        simp at h1
        subst h1
        exact ⟨hk, by omega, h3, h4, h5⟩
  · rw [if_neg hk] at h; cases h
theorem walkC_err {a : Int} {l : List Int} {xs : List S41} {t : List Int} {c : Int} (h : walkC a l = (xs, t, some c)) : xs = [] ∧ t = [] ∧ (c = 2 ∨ c = 11 ∨ (c = 3 ∧ 65487 < l.length)) := by
  unfold walkC at h
  by_cases hk : known a
  · rw [if_pos hk] at h
    by_cases g : 65487 < l.length
    · rw [if_pos g] at h; cases h; exact ⟨rfl, rfl, .inr (.inr ⟨rfl, g⟩)⟩
    · rw [if_neg g] at h
      cases hw : walkS a (l.length + 1) [] l with
      | none => rw [hw] at h; cases h; exact ⟨rfl, rfl, .inl rfl⟩
      | some p => rw [hw] at h; cases h
  · rw [if_neg hk] at h; cases h; exact ⟨rfl, rfl, .inr (.inl rfl)⟩
/- how many bytes a tail has -/
theorem rd41_mid (pre ys : List S41) (y : S41) : rd_T41 (pre ++ y :: ys) (pre.length : Int) = y := by unfold rd_T41; simp
theorem length_l0 : ∀ (ys pre : List S41) (s : Int), 0 ≤ s → s + ((ys.flatMap encF).length : Int) < 4611686018427387904 → pre.length + ys.length < 4398046511104 →
    Ev (fun k => ext_Length.l0 k s (pre ++ ys) ((pre ++ ys).length : Int) (pre.length : Int)) (s + ((ys.flatMap encF).length : Int))
  | [], pre, s, _, _, _ => by
    refine Ev.up ?_
    simp only [ext_Length.l0]
    exact Ev.neg (by simp) (Ev.cast (Ev.now _) (by simp))
  | y :: ys, pre, s, h0, h1, h2 => by
    have hfl : ((y :: ys).flatMap encF).length = y.f1.length + 4 + (ys.flatMap encF).length := by rw [List.flatMap_cons, List.length_append, encF_length]
    rw [hfl] at h1 ⊢
    simp only [List.length_cons] at h2
    refine Ev.up ?_
    simp only [ext_Length.l0]
    refine Ev.pos (by simp only [List.length_append, List.length_cons]; omega) (Ev.pos (by omega) (Ev.pos (by simp only [List.length_append, List.length_cons]; omega) ?_))
    rw [rd41_mid]
    have e1 : wrap64 (s + wrap64 (4 + (y.f1.length : Int))) = s + (y.f1.length + 4) := by
      rw [wrap64_id (n := 4 + (y.f1.length : Int)) (by unfold I64; omega), wrap64_id (by unfold I64; omega)]; omega
    have e2 : wrap64 ((pre.length : Int) + 1) = ((pre ++ [y]).length : Int) := by
      rw [wrap64_id (by unfold I64; omega)]; simp
    rw [e1, e2, show pre ++ y :: ys = (pre ++ [y]) ++ ys by simp]
    exact Ev.cast (length_l0 ys (pre ++ [y]) _ (by omega) (by omega) (by simp; omega)) (by omega)
theorem length_is (xs : List S41) (t : List Int) (h1 : (enc xs t).length < 4398046511104) (h2 : xs.length < 4398046511104) : Ev (fun k => ext_Length.f k xs t) ((enc xs t).length : Int) := by
  have hl : (enc xs t).length = (xs.flatMap encF).length + t.length := by unfold enc; rw [List.length_append]
  unfold ext_Length.f
  have := length_l0 xs [] (t.length : Int) (by omega) (by omega) (by simp; omega)
  exact Ev.cast this (by omega)
/- which tails are the same -/
def sameB (xs : List S41) (t : List Int) (ys : List S41) (u : List Int) : Bool := if xs.length = ys.length then (if extSames xs ys = true then ((strOfNums t).toList == (strOfNums u).toList) else false) else false
theorem same_is (xs : List S41) (t : List Int) (ys : List S41) (u : List Int) : ext_Same.f xs t ys u = some (sameB xs t ys u) := by
  unfold ext_Same.f sameB
  split
  · split <;> rfl
  · rfl
theorem sames_refl : ∀ xs : List S41, extSames xs xs = true
  | [] => rfl
  | x :: xs => by simp [extSames, extAlike, sames_refl xs]
theorem sameB_refl (xs : List S41) (t : List Int) : sameB xs t xs t = true := by
  unfold sameB
  rw [if_pos rfl, if_pos (sames_refl xs)]; simp
/- Put -/
theorem put16_inner {l : List Int} {x n j : Int} {xs : List Int} {r : List Int} (hx : 0 ≤ x ∧ x ≤ 65535) (hl : l.length < 70368744177664) (h : Ev (fun k => octets_Put_uint16.l0 k 2 (l ++ [x / 256, x % 256]) xs n (wrap64 (j + 1))) r) :
    Ev (fun k => octets_Put_uint16.l1 k 2 l x 1 xs n j) r := by
  have e0 : IntKind.u64.wrap x = x := by rw [wrap_u64]; omega
  have e1 : shr .u64 (IntKind.u64.wrap x) (wrap64 (8 * 1)) % 256 = x / 256 := by
    rw [e0, show wrap64 (8 * 1) = 8 by unfold wrap64; omega, show shr .u64 x 8 = x / 256 from rfl]; omega
  have e2 : shr .u64 (IntKind.u64.wrap x) (wrap64 (8 * 0)) % 256 = x % 256 := by
    rw [e0, show wrap64 (8 * 0) = 0 by unfold wrap64; omega, show shr .u64 x 0 = x / 1 from rfl]; omega
  refine Ev.up ?_
  simp only [octets_Put_uint16.l1]
  refine Ev.pos (by decide) (Ev.pos (by unfold wrap64; omega) (Ev.pos (by omega) ?_))
  rw [e1, show wrap64 (1 - 1) = 0 by unfold wrap64; omega]
  refine Ev.up ?_
  simp only [octets_Put_uint16.l1]
  refine Ev.pos (by decide) (Ev.pos (by unfold wrap64; omega) (Ev.pos (by simp; omega) ?_))
  rw [e2, show wrap64 (0 - 1) = -1 by unfold wrap64; omega]
  refine Ev.up ?_
  simp only [octets_Put_uint16.l1]
  refine Ev.neg (by decide) ?_
  rw [List.append_assoc]
  exact h
theorem put16_is {l : List Int} {p q : Int} (hp : 0 ≤ p ∧ p ≤ 65535) (hq : 0 ≤ q ∧ q ≤ 65535) (hl : l.length < 35184372088832) : Ev (fun k => octets_Put_uint16.f k l [p, q]) (l ++ [p / 256, p % 256, q / 256, q % 256]) := by
  unfold octets_Put_uint16.f
  refine Ev.bind size16_is ?_
  have hcl : slices_Clone_byte_byte.f l = some l := by unfold slices_Clone_byte_byte.f; rw [if_pos (by omega)]
  refine Ev.bindc hcl ?_
  refine Ev.up ?_
  simp only [octets_Put_uint16.l0]
  refine Ev.pos (by simp) (Ev.pos (by decide) (Ev.pos (by simp) ?_))
  rw [show rd [p, q] 0 = p from rfl, show wrap64 (2 - 1) = 1 by unfold wrap64; omega]
  refine put16_inner hp (by omega) ?_
  refine Ev.up ?_
  rw [show wrap64 (0 + 1) = 1 by unfold wrap64; omega]
  simp only [octets_Put_uint16.l0]
  refine Ev.pos (by simp) (Ev.pos (by decide) (Ev.pos (by simp) ?_))
  rw [show rd [p, q] 1 = q from rfl, show wrap64 (2 - 1) = 1 by unfold wrap64; omega]
  refine put16_inner hq (by simp; omega) ?_
  refine Ev.up ?_
  rw [show wrap64 (1 + 1) = 2 by unfold wrap64; omega]
  simp only [octets_Put_uint16.l0]
  refine Ev.neg (by simp) (Ev.cast (Ev.now _) (by simp))
theorem odd_false {x : S41} (hl : x.f1.length < 4398046511104) : extOdd x = false ↔ 12 ≤ x.f1.length ∧ x.f1.length % 4 = 0 ∧ x.f1.length ≤ 65531 := by
  unfold extOdd
  rw [wrap64_id (n := 4 + (x.f1.length : Int)) (by unfold I64; omega), Int.tmod_eq_emod_of_nonneg (by omega)]
  simp only [Bool.or_eq_false_iff, Bool.not_eq_false', Bool.and_eq_true, decide_eq_true_eq, beq_iff_eq, decide_eq_false_iff_not]
  omega
def inF (x : S41) : Prop := (0 ≤ x.f0 ∧ x.f0 ≤ 65535) ∧ (∀ y ∈ x.f1, Byte y) ∧ x.f1.length ≤ 70000
theorem okF_of {x : S41} (h : inF x) (g : extOdd x = false) : okF x := by
  have := (odd_false (by have := h.2.2; omega)).1 g
  exact ⟨h.1, h.2.1, this.1, this.2.1, this.2.2⟩
theorem okF_odd {x : S41} (h : okF x) : extOdd x = false := (odd_false (by have := h.2.2.2.2; omega)).2 h.2.2
theorem okF_in {x : S41} (h : okF x) : inF x := ⟨h.1, h.2.1, by have := h.2.2.2.2; omega⟩
theorem encF_bytes {x : S41} (h : okF x) : ∀ y ∈ encF x, Byte y := by
  obtain ⟨h1, h2, h3, h4, h5⟩ := h
  intro y hy
  simp only [encF, List.mem_cons] at hy
  rcases hy with rfl | rfl | rfl | rfl | hy
  · unfold Byte; omega
  · unfold Byte; omega
  · unfold Byte; omega
  · unfold Byte; omega
  · exact h2 y hy
theorem enc_bytes {xs : List S41} {t : List Int} (h : ∀ x ∈ xs, okF x) (ht : ∀ y ∈ t, Byte y) : ∀ y ∈ enc xs t, Byte y := by
  intro y hy
  simp only [enc, List.mem_append, List.mem_flatMap] at hy
  rcases hy with ⟨x, hx, hy⟩ | hy
  · exact encF_bytes (h x hx) y hy
  · exact ht y hy
theorem put_l0 (a : Int) (X : List S41) (T : List Int) (r : List Int × Option Int) : ∀ (ys pre : List S41) (acc : List Int), (∀ y ∈ ys, okF y) → acc.length + (ys.flatMap encF).length < 4398046511104 → pre.length + ys.length < 4398046511104 →
    Ev (fun k => ext_Put.l0 k a (acc ++ ys.flatMap encF) (pre ++ ys) ((pre ++ ys).length : Int) ((pre ++ ys).length : Int) X T) r →
    Ev (fun k => ext_Put.l0 k a acc (pre ++ ys) ((pre ++ ys).length : Int) (pre.length : Int) X T) r
  | [], pre, acc, _, _, _, h => by simpa using h
  | y :: ys, pre, acc, hy, h1, h2, h => by
    have hfl : ((y :: ys).flatMap encF).length = y.f1.length + 4 + (ys.flatMap encF).length := by rw [List.flatMap_cons, List.length_append, encF_length]
    rw [hfl] at h1
    simp only [List.length_cons] at h2
    have ok := hy y (by simp)
    refine Ev.up ?_
    simp only [ext_Put.l0]
    refine Ev.pos (by simp only [List.length_append, List.length_cons]; omega) (Ev.pos (by omega) (Ev.pos (by simp only [List.length_append, List.length_cons]; omega) ?_))
    rw [rd41_mid]
    have e1 : IntKind.u16.wrap (wrap64 (4 + (y.f1.length : Int))) = 4 + (y.f1.length : Int) := by
      have := ok.2.2.2.2
      rw [wrap64_id (n := 4 + (y.f1.length : Int)) (by unfold I64; omega), wrap_u16]; omega
    have e2 : wrap64 ((pre.length : Int) + 1) = ((pre ++ [y]).length : Int) := by
      rw [wrap64_id (by unfold I64; omega)]; simp
    rw [e1, e2]
    refine Ev.bind (put16_is ok.1 (by have := ok.2.2.2.2; omega) (by omega)) ?_
    refine Ev.pos (by simp; omega) ?_
    have e3 : acc ++ [y.f0 / 256, y.f0 % 256, (4 + (y.f1.length : Int)) / 256, (4 + (y.f1.length : Int)) % 256] ++ y.f1 = acc ++ encF y := by simp [encF]
    rw [e3]
    have e4 : pre ++ y :: ys = (pre ++ [y]) ++ ys := by simp
    rw [e4] at h ⊢
    refine put_l0 a X T r ys (pre ++ [y]) (acc ++ encF y) (fun z hz => hy z (by simp [hz])) (by rw [List.length_append, encF_length]; omega) (by simp; omega) ?_
    rw [List.append_assoc, ← List.flatMap_cons]
    exact h
def putC (a : Int) (xs : List S41) (t : List Int) : List Int × Option Int :=
  if known a then (if xs.any extOdd = true then ([], some 2) else if 65487 < (enc xs t).length then ([], some 3) else
    if (walkC a (enc xs t)).2.2 = none ∧ sameB (walkC a (enc xs t)).1 (walkC a (enc xs t)).2.1 xs t = true then (enc xs t, none) else ([], some 2)) else ([], some 11)
theorem flat_len : ∀ (xs : List S41), (∀ x ∈ xs, x.f1.length ≤ 70000) → (xs.flatMap encF).length ≤ 70004 * xs.length
  | [], _ => by simp
  | x :: xs, h => by
    have := flat_len xs (fun y hy => h y (by simp [hy]))
    have := h x (by simp)
    rw [List.flatMap_cons, List.length_append, encF_length, List.length_cons]; omega
theorem put_is (a : Int) (xs : List S41) (t : List Int) (hx : ∀ x ∈ xs, inF x) (hn : xs.length ≤ 100000) (ht : ∀ y ∈ t, Byte y) (htl : t.length ≤ 100000) : Ev (fun k => ext_Put.f k a xs t) (putC a xs t) := by
  have hfl := flat_len xs (fun x h => (hx x h).2.2)
  have hel : (enc xs t).length = (xs.flatMap encF).length + t.length := by unfold enc; rw [List.length_append]
  unfold ext_Put.f putC
  refine Ev.bindc (known_is a) ?_
  by_cases hk : known a
  case neg => rw [decide_eq_false hk, if_neg hk]; exact Ev.neg (by decide) (Ev.now _)
  rw [decide_eq_true hk, if_pos hk]
  refine Ev.pos rfl ?_
  refine Ev.bindc (show ext_Field.f xs = some (xs.any extOdd) from rfl) ?_
  by_cases ho : xs.any extOdd = true
  · rw [if_pos ho]; exact Ev.pos ho (Ev.now _)
  rw [if_neg ho]
  refine Ev.neg ho ?_
  refine Ev.bind (length_is xs t (by omega) (by omega)) ?_
  by_cases hl : 65487 < (enc xs t).length
  · rw [if_pos hl]; exact Ev.pos (by omega) (Ev.now _)
  rw [if_neg hl]
  refine Ev.neg (by omega) ?_
  have hok : ∀ x ∈ xs, okF x := fun x h => okF_of (hx x h) (by
    cases ho2 : extOdd x with
    | false => rfl
    | true => exact absurd (List.any_eq_true.2 ⟨x, h, ho2⟩) ho)
  have hcore : ∀ r, Ev (fun k => ext_Put.l0 k a ([] ++ xs.flatMap encF) ([] ++ xs) (([] ++ xs).length : Int) (([] ++ xs).length : Int) xs t) r → Ev (fun k => ext_Put.l0 k a [] xs (xs.length : Int) 0 xs t) r := fun r h =>
    put_l0 a xs t r xs [] [] hok (by simp only [List.length_nil]; omega) (by simp; omega) h
  refine hcore _ ?_
  refine Ev.up ?_
  simp only [ext_Put.l0, List.nil_append]
  refine Ev.neg (by omega) (Ev.pos (by omega) (Ev.bindc rfl ?_))
  change Ev (fun k => (ext_Walk.f k a (enc xs t)).bind _) _
  refine Ev.bind (walk_is a (enc xs t) (enc_bytes hok ht)) ?_
  generalize walkC a (enc xs t) = p
  obtain ⟨ys, u, c⟩ := p
  cases c with
  | none =>
    refine Ev.pos rfl ?_
    refine Ev.bindc (same_is _ _ _ _) ?_
    cases hs : sameB ys u xs t with
    | true => exact Ev.cast (Ev.pos rfl (Ev.now _)) (by simp [hs, enc])
    | false => exact Ev.cast (Ev.neg (by decide) (Ev.now _)) (by simp [hs])
  | some c =>
    exact Ev.cast (Ev.neg (by simp) (Ev.now _)) (by simp)
theorem put_walk {a : Int} {l : List Int} {xs : List S41} {t : List Int} (hb : ∀ y ∈ l, Byte y) (h : walkC a l = (xs, t, none)) : putC a xs t = (l, none) := by
  obtain ⟨hk, hl, he, hok, _⟩ := walkC_ok hb h
  unfold putC
  rw [if_pos hk, if_neg, he, if_neg (by omega), h, if_pos ⟨rfl, sameB_refl xs t⟩]
  intro q
  obtain ⟨x, hx, ho⟩ := List.any_eq_true.1 q
  rw [okF_odd (hok x hx)] at ho
  cases ho
/- which tails are too long to be looked at -/
theorem alive_is : Ev (fun k => horologelaw29_alive.f k) true := Ev.of (fun k => horologelaw29_alive.mono k) (k := 60) (by kernel_rfl)
def longF (y : S41) : Bool := decide (((300 : Int) < y.f1.length ∧ (y.f1.length : Int) < 60000) ∨ (70000 : Int) < y.f1.length)
theorem long_l0 : ∀ (ys pre : List S41), pre.length + ys.length < 4398046511104 → Ev (fun k => horologelaw29_Long.l0 k (pre ++ ys) ((pre ++ ys).length : Int) (pre.length : Int)) (ys.any longF)
  | [], pre, _ => by
    refine Ev.up ?_
    simp only [horologelaw29_Long.l0]
    exact Ev.neg (by simp) (Ev.now _)
  | y :: ys, pre, h => by
    simp only [List.length_cons] at h
    refine Ev.up ?_
    simp only [horologelaw29_Long.l0]
    refine Ev.pos (by simp only [List.length_append, List.length_cons]; omega) (Ev.pos (by omega) (Ev.pos (by simp only [List.length_append, List.length_cons]; omega) ?_))
    rw [rd41_mid]
    have step : ∀ b : Bool, b = longF y → Ev (fun k => horologelaw29_Long.j2 k (pre ++ y :: ys) ((pre ++ y :: ys).length : Int) (pre.length : Int) b) ((y :: ys).any longF) := by
      rintro b rfl
      refine Ev.up ?_
      simp only [horologelaw29_Long.j2, List.any_cons]
      cases hy : longF y with
      | true => exact Ev.pos (by first | trivial | rfl) (Ev.now _)
      | false =>
        refine Ev.neg (by decide) ?_
        have e2 : wrap64 ((pre.length : Int) + 1) = ((pre ++ [y]).length : Int) := by
          rw [wrap64_id (by unfold I64; omega)]; simp
        rw [e2, show pre ++ y :: ys = (pre ++ [y]) ++ ys by simp, Bool.false_or]
        exact long_l0 ys (pre ++ [y]) (by simp; omega)
    by_cases c1 : (y.f1.length : Int) > 300
    · refine Ev.pos c1 ?_
      by_cases c2 : (y.f1.length : Int) < 60000
      · exact Ev.pos c2 (step true (by unfold longF; rw [decide_eq_true (.inl ⟨c1, c2⟩)]))
      · refine Ev.neg c2 (step _ ?_)
        unfold longF
        exact decide_eq_decide.2 ⟨fun h => .inr h, fun h => h.elim (fun q => absurd q.2 c2) id⟩
    · refine Ev.neg c1 (step _ ?_)
      unfold longF
      exact decide_eq_decide.2 ⟨fun h => .inr h, fun h => h.elim (fun q => absurd q.1 c1) id⟩
def fits (xs : List S41) (t : List Int) : Prop := t.length ≤ 300 ∧ xs.length ≤ 20 ∧ ∀ x ∈ xs, x.f1.length ≤ 70000
theorem long_ex (xs : List S41) (t : List Int) : ∃ b, Ev (fun k => horologelaw29_Long.f k xs t) b ∧ (b = false → fits xs t) := by
  unfold horologelaw29_Long.f
  by_cases c1 : (t.length : Int) > 300
  · refine ⟨true, Ev.pos c1 (Ev.up ?_), fun h => by cases h⟩
    simp only [horologelaw29_Long.j0]
    exact Ev.pos (by first | trivial | rfl) (Ev.now _)
  by_cases c2 : (xs.length : Int) > 20
  · refine ⟨true, Ev.neg c1 (Ev.up ?_), fun h => by cases h⟩
    simp only [horologelaw29_Long.j0]
    exact Ev.pos (decide_eq_true c2) (Ev.now _)
  refine ⟨xs.any longF, Ev.neg c1 (Ev.up ?_), fun h => ⟨by omega, by omega, fun x hx => ?_⟩⟩
  · simp only [horologelaw29_Long.j0]
    exact Ev.neg (by rw [decide_eq_false c2]; decide) (long_l0 xs [] (by simp; omega))
  · have := List.any_eq_false.1 h x hx
    unfold longF at this
    simp only [decide_eq_true_eq] at this
    omega
theorem enc_len (xs : List S41) (t : List Int) : xs.length + t.length ≤ (enc xs t).length := by
  have : ∀ ys : List S41, ys.length ≤ (ys.flatMap encF).length := by
    intro ys
    induction ys with
    | nil => simp
    | cons y ys ih => rw [List.flatMap_cons, List.length_append, encF_length, List.length_cons]; omega
  have := this xs
  unfold enc
  rw [List.length_append]; omega
theorem back2 (a : Int) (l : List Int) (hb : ∀ y ∈ l, Byte y) (hl : l.length ≤ 1000) : Ev (fun k => (ext_Walk.f k a l).bind fun p => (if p.2.2.isNone = true then ((ext_Put.f k a p.1 p.2.1).bind fun q => (if q.2.isNone = true then ((horologenum_Bytes.f q.1 l).bind fun t => (some t)) else (some false))) else ((ext_Same.f p.1 p.2.1 ([] : List (S41)) ([] : List Int)).bind fun t => (if t = true then ((horologenum_Is.f (some (p.2.2.getD 0)) 2).bind fun u => (if u = true then (some true) else ((horologenum_Is.f (some (p.2.2.getD 0)) 11).bind fun v => (some v)))) else (some false))))) true := by
  refine Ev.bind (walk_is a l hb) ?_
  cases hw : walkC a l with
  | mk xs p =>
  obtain ⟨t, c⟩ := p
  cases c with
  | none =>
    have hp := put_walk hb hw
    obtain ⟨_, _, he, hok, _⟩ := walkC_ok hb hw
    have hel := enc_len xs t
    rw [he] at hel
    have ht : ∀ y ∈ t, Byte y := fun y hy => hb y (by rw [← he]; simp [enc, hy])
    refine Ev.pos (by first | trivial | rfl) ?_
    refine Ev.bind (put_is a xs t (fun x h => okF_in (hok x h)) (by omega) ht (by omega)) ?_
    rw [hp]
    refine Ev.pos (by first | trivial | rfl) (Ev.bindc (show horologenum_Bytes.f l l = some true by unfold horologenum_Bytes.f; simp) (Ev.now _))
  | some c =>
    obtain ⟨rfl, rfl, hc⟩ := walkC_err hw
    refine Ev.neg (by simp) (Ev.bindc (same_is _ _ _ _) ?_)
    rw [sameB_refl]
    refine Ev.pos (by first | trivial | rfl) ?_
    rcases hc with rfl | rfl | ⟨_, h3⟩
    · exact Ev.bindc (show horologenum_Is.f (some ((some (2 : Int)).getD 0)) 2 = some true from rfl) (Ev.pos (by first | trivial | rfl) (Ev.now _))
    · exact Ev.bindc (show horologenum_Is.f (some ((some (11 : Int)).getD 0)) 2 = some false from rfl) (Ev.neg (by decide) (Ev.bindc (show horologenum_Is.f (some ((some (11 : Int)).getD 0)) 11 = some true from rfl) (Ev.now _)))
    · omega
theorem putC_ok {a : Int} {xs : List S41} {t B : List Int} (h : putC a xs t = (B, none)) : B = enc xs t ∧ xs.any extOdd ≠ true ∧ (enc xs t).length ≤ 65487 ∧ ∃ ys u, walkC a B = (ys, u, none) ∧ sameB ys u xs t = true := by
  unfold putC at h
  by_cases hk : known a
  case neg => rw [if_neg hk] at h; cases h
  rw [if_pos hk] at h
  by_cases ho : xs.any extOdd = true
  · rw [if_pos ho] at h; cases h
  rw [if_neg ho] at h
  by_cases hl : 65487 < (enc xs t).length
  · rw [if_pos hl] at h; cases h
  rw [if_neg hl] at h
  by_cases hw : (walkC a (enc xs t)).2.2 = none ∧ sameB (walkC a (enc xs t)).1 (walkC a (enc xs t)).2.1 xs t = true
  · rw [if_pos hw] at h
    obtain ⟨rfl, _⟩ := Prod.mk.inj h
    refine ⟨rfl, ho, by omega, (walkC a (enc xs t)).1, (walkC a (enc xs t)).2.1, ?_, hw.2⟩
    rw [← hw.1]
  · rw [if_neg hw] at h; cases h
theorem back_true (a : Int) (l2 : List Int) (xs : List S41) (t : List Int) : Ev (fun k => horologelaw29_ExtBack.j0 k a l2 true xs t) true := by
  refine Ev.up ?_
  simp only [horologelaw29_ExtBack.j0]
  exact Ev.pos (by first | trivial | rfl) (Ev.now _)
end Go.Proofs.Ytnlcegcnaamnoaa.MExtBack
namespace Go.Proofs.Ytnlcegcnaamnoaa.Pure
open Go.RowKit Go.Proofs.Ytnlcegcnaamnoaa.MExtBack Go.Proofs.YtnlcegcnaamnoaaW.PrintWords Go.Proofs.YtnlcegcnaamnoaaW.PrintLast Go.Proofs.YtnlcegcnaamnoaaW.PrintMore Go.Proofs.Ytnlcegcnaamnoaa.Base
theorem ExtBack : horologelaw29_ExtBack.Pure := by
  intro a xs t l2 ha hok h1 h2 hb2
  have hb : ∀ y ∈ l2, Byte y := fun y hy => byte_of (hb2 y hy)
  obtain ⟨⟨_, hx⟩, _, ht0⟩ := hok
  have ht : ∀ y ∈ t, Byte y := fun y hy => byte_of (ht0 y hy)
  refine Ev.ok (Ev.bind alive_is (Ev.pos (by first | trivial | rfl) ?_))
  obtain ⟨b, hE, hf⟩ := long_ex xs t
  refine Ev.bind hE ?_
  cases b with
  | true => exact Ev.pos (by first | trivial | rfl) (back_true _ _ _ _)
  | false =>
  obtain ⟨f1, f2, f3⟩ := hf rfl
  refine Ev.neg (by decide) ?_
  by_cases hl : (l2.length : Int) > 1000
  · rw [decide_eq_true hl]; exact back_true _ _ _ _
  rw [decide_eq_false hl]
  have hin : ∀ x ∈ xs, inF x := fun x h => ⟨u16_of (hx x h).1, fun y hy => byte_of ((hx x h).2.2 y hy), f3 x h⟩
  have hfl := flat_len xs f3
  have hel : (enc xs t).length = (xs.flatMap encF).length + t.length := by unfold enc; rw [List.length_append]
  refine Ev.up ?_
  simp only [horologelaw29_ExtBack.j0]
  refine Ev.neg (by decide) ?_
  refine Ev.bind (put_is a xs t hin (by omega) ht (by omega)) ?_
  cases hp : putC a xs t with
  | mk B c =>
  cases c with
  | some c => exact Ev.neg (by simp) (back2 a l2 hb (by omega))
  | none =>
    obtain ⟨rfl, ho, hL, ys, u, hw, hs⟩ := putC_ok hp
    have hokx : ∀ x ∈ xs, okF x := fun x h => okF_of (hin x h) (by
      cases ho2 : extOdd x with
      | false => rfl
      | true => exact absurd (List.any_eq_true.2 ⟨x, h, ho2⟩) ho)
    refine Ev.pos (by first | trivial | rfl) ?_
    refine Ev.bind (walk_is a (enc xs t) (enc_bytes hokx ht)) ?_
    rw [hw]
    refine Ev.pos (by first | trivial | rfl) (Ev.bindc (same_is _ _ _ _) ?_)
    rw [hs]
    refine Ev.pos (by first | trivial | rfl) (Ev.bind (length_is xs t (by omega) (by omega)) ?_)
    have e : (((enc xs t).length : Int) != ((enc xs t).length : Int)) = false := by simp
    show Ev (fun k => horologelaw29_ExtBack.j1 k a l2 (((enc xs t).length : Int) != ((enc xs t).length : Int))) true
    rw [e]
    refine Ev.up ?_
    simp only [horologelaw29_ExtBack.j1]
    exact Ev.neg (by decide) (back2 a l2 hb (by omega))
end Go.Proofs.Ytnlcegcnaamnoaa.Pure
