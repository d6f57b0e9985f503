/- ExtParts: a tail's key, its kind of seal, its fields by their types, its length, and which tails are the same. For every two tails and every type; no further condition. -/
import Derived.Test.YtnlcegcnaamnoaaMExtPartsx
import Derived.Test.YtnlcegcnaamnoaaBase
namespace Go.Proofs.Ytnlcegcnaamnoaa.MExtParts
open Go.RowKit Go.Proofs.YtnlcegcnaamnoaaW.PrintWords Go.Proofs.YtnlcegcnaamnoaaW.PrintLast Go.Proofs.YtnlcegcnaamnoaaW.PrintMore Go.Proofs.Ytnlcegcnaamnoaa.Base
set_option linter.unusedVariables false
set_option linter.unusedSimpArgs false

/- numbers of two bytes, a field, and the walk -/
theorem or_join {x y : Int} {s : Nat} (hs : s ≤ 64) (h0 : 0 ≤ x) (h1 : x < 18446744073709551616) (hm : x % 2 ^ s = 0) (g0 : 0 ≤ y) (g1 : y < 2 ^ s) : Go.bits .or .u64 x y = x + y :=
  bits_join .u64 64 (by simp [IntKind.bits]) (fun m a b => by rw [wrap_u64]; omega) s x y h0 hm h1 g0 g1 (Int.lt_of_lt_of_le g1 (pow_le_of hs))
def Byte (x : Int) : Prop := 0 ≤ x ∧ x ≤ 255
theorem byte_of {x : Int} (h : (Lit.int .u8 x).wf = true) : Byte x := bounds_u8 h
theorem u16_of {x : Int} (h : (Lit.int .u16 x).wf = true) : 0 ≤ x ∧ x ≤ 65535 := bounds_u16 h
theorem size16_is : Ev (fun k => octets_Size_uint16.f k) 2 := Ev.of (fun k => octets_Size_uint16.mono k) (k := 8) (by kernel_rfl)
theorem or_byte {x y : Int} (hx : 0 ≤ x ∧ x < 72057594037927936) (hy : Byte y) : Go.bits .or .u64 (IntKind.u64.wrap (x * 256)) (IntKind.u64.wrap y) = x * 256 + y := by
  unfold Byte at hy
  rw [wrap_u64, wrap_u64, show x * 256 % 18446744073709551616 = x * 256 by omega, show y % 18446744073709551616 = y by omega]
  exact or_join (s := 8) (by decide) (by omega) (by omega) (by show x * 256 % 256 = 0; omega) (by omega) (by show y < 256; omega)
theorem word16_is {a b : Int} (ha : Byte a) (hb : Byte b) : Ev (fun k => octets_word_uint16.f k [a, b]) (a * 256 + b) := by
  have e1 : Go.bits .or .u64 (IntKind.u64.wrap (0 * 256)) (IntKind.u64.wrap (rd [a, b] 0)) = a := by
    rw [show rd [a, b] 0 = a from rfl, or_byte (by omega) ha]; omega
  have e2 : Go.bits .or .u64 (IntKind.u64.wrap (a * 256)) (IntKind.u64.wrap (rd [a, b] 1)) = a * 256 + b := by
    rw [show rd [a, b] 1 = b from rfl, or_byte (by unfold Byte at ha; omega) hb]
  show Ev (fun k => octets_word_uint16.l0 k 0 [a, b] 2 0) _
  refine Ev.up ?_
  simp only [octets_word_uint16.l0]
  refine Ev.pos (by decide) (Ev.pos (by decide) (Ev.pos (by simp) ?_))
  rw [e1, show wrap64 (0 + 1) = 1 by unfold wrap64; omega]
  refine Ev.up ?_
  simp only [octets_word_uint16.l0]
  refine Ev.pos (by decide) (Ev.pos (by decide) (Ev.pos (by simp) ?_))
  rw [e2, show wrap64 (1 + 1) = 2 by unfold wrap64; omega]
  refine Ev.up ?_
  simp only [octets_word_uint16.l0]
  refine Ev.neg (by decide) ?_
  rw [wrap_u16, show (a * 256 + b) % 65536 = a * 256 + b by unfold Byte at ha hb; omega]
  exact Ev.now _
theorem list16_short {l : List Int} (h : l.length < 4) : Ev (fun k => octets_List_uint16.f k l 0 2) ([], some 4) := by
  unfold octets_List_uint16.f
  refine Ev.bind size16_is ?_
  exact Ev.pos ⟨rfl, by omega⟩ (Ev.neg (by decide) (Ev.neg (by omega) (Ev.neg (by decide) (Ev.pos (by omega) (Ev.now _)))))
theorem list16_is {a b c d : Int} {r : List Int} (ha : Byte a) (hb : Byte b) (hc : Byte c) (hd : Byte d) (h : (a :: b :: c :: d :: r).length < 35184372088832) : Ev (fun k => octets_List_uint16.f k (a :: b :: c :: d :: r) 0 2) ([a * 256 + b, c * 256 + d], none) := by
  unfold octets_List_uint16.f
  refine Ev.bind size16_is ?_
  refine Ev.pos ⟨rfl, h⟩ (Ev.neg (by decide) (Ev.neg (by omega) (Ev.neg (by decide) (Ev.neg (by simp only [List.length_cons]; omega) ?_))))
  refine Ev.bind (a := [a * 256 + b, c * 256 + d]) ?_ (Ev.now _)
  show Ev (fun k => ((some []).bind fun xs => (octets_word_uint16.f k [a, b]).bind fun x => some (xs ++ [x])).bind fun xs => (octets_word_uint16.f k [c, d]).bind fun x => some (xs ++ [x])) _
  refine Ev.bind (a := [a * 256 + b]) (Ev.bindc rfl (Ev.bind (word16_is ha hb) (Ev.now _))) ?_
  exact Ev.bind (word16_is hc hd) (Ev.now _)
theorem longS_is (w : Int) : ext_long.f w = some (decide (16 ≤ w ∧ w % 4 = 0)) := by
  unfold ext_long.f
  by_cases h : 16 ≤ w
  · rw [if_pos h, Int.tmod_eq_emod_of_nonneg (by omega)]
    by_cases g : w % 4 = 0
    · simp [g, h]
    · simp [g]
  · rw [if_neg h]; simp [h]
def fieldS : List Int → Option (S41 × List Int)
  | a :: b :: c :: d :: r => if 16 ≤ c * 256 + d ∧ (c * 256 + d) % 4 = 0 ∧ c * 256 + d ≤ (r.length : Int) + 4 then some (⟨a * 256 + b, r.take (c * 256 + d - 4).toNat⟩, r.drop (c * 256 + d - 4).toNat) else none
  | _ => none
theorem field_is {l : List Int} (hl : 4 ≤ l.length) (hb : ∀ y ∈ l, Byte y) (h : l.length < 35184372088832) :
    Ev (fun k => ext_field.f k l) (match fieldS l with | some (x, r) => (x.f0, x.f1, r, none) | none => (0, [], [], some 2)) := by
  match l, hl with
  | a :: b :: c :: d :: r, _ =>
  have ha := hb a (by simp)
  have hb' := hb b (by simp)
  have hc := hb c (by simp)
  have hd := hb d (by simp)
  unfold ext_field.f
  refine Ev.bind (list16_is ha hb' hc hd h) ?_
  have e1 : wrap64 (rd [a * 256 + b, c * 256 + d] 1) = c * 256 + d := by
    rw [show rd [a * 256 + b, c * 256 + d] 1 = c * 256 + d from rfl]; unfold Byte at hc hd; unfold wrap64; omega
  have e0 : rd [a * 256 + b, c * 256 + d] 0 = a * 256 + b := rfl
  simp only [e1, e0]
  refine Ev.pos rfl (Ev.pos (by simp) ?_)
  rw [longS_is]
  refine Ev.bindc rfl ?_
  by_cases g : 16 ≤ c * 256 + d ∧ (c * 256 + d) % 4 = 0
  · rw [decide_eq_true g]
    refine Ev.pos rfl ?_
    by_cases g2 : c * 256 + d ≤ (r.length : Int) + 4
    · have e : fieldS (a :: b :: c :: d :: r) = some (⟨a * 256 + b, r.take (c * 256 + d - 4).toNat⟩, r.drop (c * 256 + d - 4).toNat) := by
        simp only [fieldS]; rw [if_pos ⟨g.1, g.2, g2⟩]
      rw [e]
      simp only [List.length_cons] at h ⊢
      refine Ev.neg (by omega) (Ev.pos (by simp) (Ev.pos (by omega) (Ev.pos (by omega) ?_)))
      obtain ⟨n, hn⟩ : ∃ n : Nat, c * 256 + d = (n : Int) + 4 := ⟨(c * 256 + d - 4).toNat, by omega⟩
      have e3 : (c * 256 + d).toNat = n + 1 + 1 + 1 + 1 := by omega
      have e4 : (c * 256 + d - 4).toNat = n := by omega
      rw [e3, e4]
      simp only [List.take_succ_cons, List.drop_succ_cons, List.drop_zero]
      have hcl : slices_Clone_byte_byte.f (r.take n) = some (r.take n) := by
        unfold slices_Clone_byte_byte.f; rw [if_pos (by rw [List.length_take]; omega)]
      exact Ev.bindc hcl (Ev.pos (by omega) (Ev.now _))
    · have e : fieldS (a :: b :: c :: d :: r) = none := by simp only [fieldS]; rw [if_neg (fun q => g2 q.2.2)]
      rw [e]
      exact Ev.pos (by simp only [List.length_cons]; omega) (Ev.now _)
  · have e : fieldS (a :: b :: c :: d :: r) = none := by simp only [fieldS]; rw [if_neg (fun q => g ⟨q.1, q.2.1⟩)]
    rw [e, decide_eq_false g]
    exact Ev.neg (by decide) (Ev.now _)
def encF (x : S41) : List Int := (x.f0 / 256) :: (x.f0 % 256) :: ((4 + (x.f1.length : Int)) / 256) :: ((4 + (x.f1.length : Int)) % 256) :: x.f1
def enc (xs : List S41) (t : List Int) : List Int := xs.flatMap encF ++ t
def okF (x : S41) : Prop := (0 ≤ x.f0 ∧ x.f0 ≤ 65535) ∧ (∀ y ∈ x.f1, Byte y) ∧ 12 ≤ x.f1.length ∧ x.f1.length % 4 = 0 ∧ x.f1.length ≤ 65531
theorem fieldS_some {l : List Int} {x : S41} {r : List Int} (hb : ∀ y ∈ l, Byte y) (h : fieldS l = some (x, r)) : l = encF x ++ r ∧ okF x := by
  match l, h with
  | a :: b :: c :: d :: r0, h =>
  have ha := hb a (by simp)
  have hb' := hb b (by simp)
  have hc := hb c (by simp)
  have hd := hb d (by simp)
  unfold Byte at ha hb' hc hd
  simp only [fieldS] at h
  by_cases g : 16 ≤ c * 256 + d ∧ (c * 256 + d) % 4 = 0 ∧ c * 256 + d ≤ (r0.length : Int) + 4
  · rw [if_pos g] at h
    obtain ⟨rfl, rfl⟩ := Prod.mk.inj (Option.some.inj h)
    have hl : (r0.take (c * 256 + d - 4).toNat).length = (c * 256 + d - 4).toNat := by rw [List.length_take]; omega
    refine ⟨?_, ⟨by show 0 ≤ a * 256 + b; omega, by show a * 256 + b ≤ 65535; omega⟩, fun y hy => hb y (by have := List.mem_of_mem_take hy; simp [this]), by show 12 ≤ (r0.take _).length; omega, by show (r0.take _).length % 4 = 0; omega, by show (r0.take _).length ≤ 65531; omega⟩
    simp only [encF, List.cons_append, List.take_append_drop, hl]
    congr 1
    · omega
    congr 1
    · omega
    congr 1
    · omega
    congr 1
    · omega
  · rw [if_neg g] at h; cases h
  | [], h => cases h
  | [_], h => cases h
  | [_, _], h => cases h
  | [_, _, _], h => cases h
def mayB (a n : Int) : Bool := (ext_may.f a n).getD false
theorem may_is (a n : Int) : ext_may.f a n = some (mayB a n) := by
  unfold mayB
  have : ∃ b, ext_may.f a n = some b := by
    unfold ext_may.f
    repeat' split
    all_goals exact ⟨_, rfl⟩
  obtain ⟨b, hb⟩ := this
  rw [hb]; rfl
def walkS (a : Int) : Nat → List S41 → List Int → Option (List S41 × List Int)
  | 0, _, _ => none
  | n + 1, acc, l => if a = 4 ∧ 24 < l.length then (match fieldS l with | some (x, r) => walkS a n (acc ++ [x]) r | none => none) else if mayB a (l.length : Int) then some (acc, l) else none
def walkR : Option (List S41 × List Int) → List S41 × List Int × Option Int
  | some (xs, t) => (xs, t, none)
  | none => ([], [], some 2)
theorem encF_length (x : S41) : (encF x).length = x.f1.length + 4 := by simp [encF]
theorem walkS_is (a : Int) : ∀ (n : Nat) (acc : List S41) (l : List Int), l.length < n → (∀ y ∈ l, Byte y) → l.length ≤ 65535 → acc.length + l.length < 4398046511104 → Ev (fun k => ext_Walk.l0 k a l acc) (walkR (walkS a n acc l))
  | 0, _, _, h, _, _, _ => by omega
  | n + 1, acc, l, hn, hb, hl, ha => by
    have tail : ¬ (a = 4 ∧ 24 < l.length) → Ev (fun k => ext_Walk.j1 k a l false acc) (walkR (walkS a (n + 1) acc l)) := by
      intro g
      refine Ev.up ?_
      simp only [ext_Walk.j1, walkS]
      refine Ev.neg (by decide) ?_
      rw [if_neg g]
      refine Ev.bindc (may_is _ _) ?_
      cases hm : mayB a (l.length : Int) with
      | true =>
        have hcl : slices_Clone_byte_byte.f l = some l := by
          unfold slices_Clone_byte_byte.f; rw [if_pos (by omega)]
        exact Ev.pos rfl (Ev.bindc hcl (Ev.now _))
      | false => exact Ev.neg (by decide) (Ev.now _)
    refine Ev.up ?_
    simp only [ext_Walk.l0]
    by_cases g4 : a = 4
    · refine Ev.pos g4 ?_
      by_cases g : 24 < l.length
      · rw [decide_eq_true (by omega : (l.length : Int) > 24)]
        refine Ev.up ?_
        simp only [ext_Walk.j1, walkS]
        refine Ev.pos (by first | trivial | rfl) ?_
        rw [if_pos ⟨g4, g⟩]
        refine Ev.bind (field_is (by omega) hb (by omega)) ?_
        cases hf : fieldS l with
        | none => exact Ev.neg (by simp) (Ev.now _)
        | some p =>
          obtain ⟨x, r⟩ := p
          obtain ⟨e, ok⟩ := fieldS_some hb hf
          have hlr : l.length = x.f1.length + 4 + r.length := by rw [e, List.length_append, encF_length]
          refine Ev.pos (by first | trivial | rfl) (Ev.pos (by omega) ?_)
          exact walkS_is a n (acc ++ [x]) r (by omega) (fun y hy => hb y (by rw [e]; simp [hy])) (by omega) (by simp; omega)
      · rw [decide_eq_false (by omega : ¬ (l.length : Int) > 24)]
        exact tail (fun q => g q.2)
    · exact Ev.neg g4 (tail (fun q => g4 q.1))
theorem walkS_some (a : Int) : ∀ (n : Nat) (acc : List S41) (l : List Int) (xs : List S41) (t : List Int), (∀ y ∈ l, Byte y) → walkS a n acc l = some (xs, t) → ∃ ys, xs = acc ++ ys ∧ enc ys t = l ∧ (∀ y ∈ ys, okF y) ∧ (a ≠ 4 → ys = [])
  | 0, _, _, _, _, _, h => by simp [walkS] at h
  | n + 1, acc, l, xs, t, hb, h => by
    simp only [walkS] at h
    by_cases g : a = 4 ∧ 24 < l.length
    · rw [if_pos g] at h
      cases hf : fieldS l with
      | none => rw [hf] at h; cases h
      | some p =>
        obtain ⟨x, r⟩ := p
        rw [hf] at h
        obtain ⟨e, ok⟩ := fieldS_some hb hf
        obtain ⟨ys, h1, h2, h3, h4⟩ := walkS_some a n (acc ++ [x]) r xs t (fun y hy => hb y (by rw [e]; simp [hy])) h
        refine ⟨x :: ys, by rw [h1]; simp, ?_, ?_, fun q => absurd g.1 q⟩
        · rw [e, ← h2]; simp [enc]
        · intro y hy
          rcases List.mem_cons.1 hy with rfl | hy
          · exact ok
          · exact h3 y hy
    · rw [if_neg g] at h
      by_cases hm : mayB a (l.length : Int) = true
      · rw [if_pos hm] at h
        obtain ⟨rfl, rfl⟩ := Prod.mk.inj (Option.some.inj h)
        exact ⟨[], by simp, by simp [enc], by simp, fun _ => rfl⟩
      · rw [if_neg hm] at h; cases h
def known (a : Int) : Prop := 1 ≤ a ∧ a ≤ 4
instance (a : Int) : Decidable (known a) := inferInstanceAs (Decidable (_ ∧ _))
theorem known_is (a : Int) : ext_known.f a = some (decide (known a)) := by
  unfold ext_known.f known
  by_cases h : a ≥ 1
  · rw [if_pos h]; simp [show 1 ≤ a from h]
  · rw [if_neg h]; simp [show ¬ 1 ≤ a from h]
def walkC (a : Int) (l : List Int) : List S41 × List Int × Option Int :=
  if known a then (if 65487 < l.length then ([], [], some 3) else walkR (walkS a (l.length + 1) [] l)) else ([], [], some 11)
theorem walk_is (a : Int) (l : List Int) (hb : ∀ y ∈ l, Byte y) : Ev (fun k => ext_Walk.f k a l) (walkC a l) := by
  unfold ext_Walk.f walkC
  refine Ev.bindc (known_is a) ?_
  by_cases h : known a
  · rw [decide_eq_true h, if_pos h]
    refine Ev.pos rfl ?_
    by_cases g : 65487 < l.length
    · rw [if_pos g]; exact Ev.pos (by omega) (Ev.now _)
    · rw [if_neg g]
      exact Ev.neg (by omega) (walkS_is a (l.length + 1) [] l (by omega) hb (by omega) (by simp; omega))
  · rw [decide_eq_false h, if_neg h]
    exact Ev.neg (by decide) (Ev.now _)
theorem walkC_ok {a : Int} {l : List Int} {xs : List S41} {t : List Int} (hb : ∀ y ∈ l, Byte y) (h : walkC a l = (xs, t, none)) : known a ∧ l.length ≤ 65487 ∧ enc xs t = l ∧ (∀ x ∈ xs, okF x) ∧ (a ≠ 4 → xs = []) := by
  unfold walkC at h
  by_cases hk : known a
  · rw [if_pos hk] at h
    by_cases g : 65487 < l.length
    · rw [if_pos g] at h; cases h
    · rw [if_neg g] at h
      cases hw : walkS a (l.length + 1) [] l with
      | none => rw [hw] at h; cases h
      | some p =>
        obtain ⟨ys, u⟩ := p
        rw [hw] at h
        obtain ⟨rfl, h2⟩ := Prod.mk.inj h
        obtain ⟨rfl, _⟩ := Prod.mk.inj h2
        obtain ⟨zs, h1, h3, h4, h5⟩ := walkS_some a _ _ _ _ _ hb hw
        simp at h1
        subst h1
        exact ⟨hk, by omega, h3, h4, h5⟩
  · rw [if_neg hk] at h; cases h
theorem walkC_err {a : Int} {l : List Int} {xs : List S41} {t : List Int} {c : Int} (h : walkC a l = (xs, t, some c)) : xs = [] ∧ t = [] ∧ (c = 2 ∨ c = 11 ∨ (c = 3 ∧ 65487 < l.length)) := by
  unfold walkC at h
  by_cases hk : known a
  · rw [if_pos hk] at h
    by_cases g : 65487 < l.length
    · rw [if_pos g] at h; cases h; exact ⟨rfl, rfl, .inr (.inr ⟨rfl, g⟩)⟩
    · rw [if_neg g] at h
      cases hw : walkS a (l.length + 1) [] l with
      | none => rw [hw] at h; cases h; exact ⟨rfl, rfl, .inl rfl⟩
      | some p => rw [hw] at h; cases h
  · rw [if_neg hk] at h; cases h; exact ⟨rfl, rfl, .inr (.inl rfl)⟩
/- how many bytes a tail has -/
theorem rd41_mid (pre ys : List S41) (y : S41) : rd_T41 (pre ++ y :: ys) (pre.length : Int) = y := by unfold rd_T41; simp
theorem length_l0 : ∀ (ys pre : List S41) (s : Int), 0 ≤ s → s + ((ys.flatMap encF).length : Int) < 4611686018427387904 → pre.length + ys.length < 4398046511104 →
    Ev (fun k => ext_Length.l0 k s (pre ++ ys) ((pre ++ ys).length : Int) (pre.length : Int)) (s + ((ys.flatMap encF).length : Int))
  | [], pre, s, _, _, _ => by
    refine Ev.up ?_
    simp only [ext_Length.l0]
    exact Ev.neg (by simp) (Ev.cast (Ev.now _) (by simp))
  | y :: ys, pre, s, h0, h1, h2 => by
    have hfl : ((y :: ys).flatMap encF).length = y.f1.length + 4 + (ys.flatMap encF).length := by rw [List.flatMap_cons, List.length_append, encF_length]
    rw [hfl] at h1 ⊢
    simp only [List.length_cons] at h2
    refine Ev.up ?_
    simp only [ext_Length.l0]
    refine Ev.pos (by simp only [List.length_append, List.length_cons]; omega) (Ev.pos (by omega) (Ev.pos (by simp only [List.length_append, List.length_cons]; omega) ?_))
    rw [rd41_mid]
    have e1 : wrap64 (s + wrap64 (4 + (y.f1.length : Int))) = s + (y.f1.length + 4) := by
      rw [wrap64_id (n := 4 + (y.f1.length : Int)) (by unfold I64; omega), wrap64_id (by unfold I64; omega)]; omega
    have e2 : wrap64 ((pre.length : Int) + 1) = ((pre ++ [y]).length : Int) := by
      rw [wrap64_id (by unfold I64; omega)]; simp
    rw [e1, e2, show pre ++ y :: ys = (pre ++ [y]) ++ ys by simp]
    exact Ev.cast (length_l0 ys (pre ++ [y]) _ (by omega) (by omega) (by simp; omega)) (by omega)
theorem length_is (xs : List S41) (t : List Int) (h1 : (enc xs t).length < 4398046511104) (h2 : xs.length < 4398046511104) : Ev (fun k => ext_Length.f k xs t) ((enc xs t).length : Int) := by
  have hl : (enc xs t).length = (xs.flatMap encF).length + t.length := by unfold enc; rw [List.length_append]
  unfold ext_Length.f
  have := length_l0 xs [] (t.length : Int) (by omega) (by omega) (by simp; omega)
  exact Ev.cast this (by omega)
/- which tails are the same -/
def sameB (xs : List S41) (t : List Int) (ys : List S41) (u : List Int) : Bool := if xs.length = ys.length then (if extSames xs ys = true then ((strOfNums t).toList == (strOfNums u).toList) else false) else false
theorem same_is (xs : List S41) (t : List Int) (ys : List S41) (u : List Int) : ext_Same.f xs t ys u = some (sameB xs t ys u) := by
  unfold ext_Same.f sameB
  split
  · split <;> rfl
  · rfl
theorem sames_refl : ∀ xs : List S41, extSames xs xs = true
  | [] => rfl
  | x :: xs => by simp [extSames, extAlike, sames_refl xs]
theorem sameB_refl (xs : List S41) (t : List Int) : sameB xs t xs t = true := by
  unfold sameB
  rw [if_pos rfl, if_pos (sames_refl xs)]; simp
/- which tails are too long to be looked at -/
theorem alive_is : Ev (fun k => horologelaw29_alive.f k) true := Ev.of (fun k => horologelaw29_alive.mono k) (k := 60) (by kernel_rfl)
def longF (y : S41) : Bool := decide (((300 : Int) < y.f1.length ∧ (y.f1.length : Int) < 60000) ∨ (70000 : Int) < y.f1.length)
theorem long_l0 : ∀ (ys pre : List S41), pre.length + ys.length < 4398046511104 → Ev (fun k => horologelaw29_Long.l0 k (pre ++ ys) ((pre ++ ys).length : Int) (pre.length : Int)) (ys.any longF)
  | [], pre, _ => by
    refine Ev.up ?_
    simp only [horologelaw29_Long.l0]
    exact Ev.neg (by simp) (Ev.now _)
  | y :: ys, pre, h => by
    simp only [List.length_cons] at h
    refine Ev.up ?_
    simp only [horologelaw29_Long.l0]
    refine Ev.pos (by simp only [List.length_append, List.length_cons]; omega) (Ev.pos (by omega) (Ev.pos (by simp only [List.length_append, List.length_cons]; omega) ?_))
    rw [rd41_mid]
    have step : ∀ b : Bool, b = longF y → Ev (fun k => horologelaw29_Long.j2 k (pre ++ y :: ys) ((pre ++ y :: ys).length : Int) (pre.length : Int) b) ((y :: ys).any longF) := by
      rintro b rfl
      refine Ev.up ?_
      simp only [horologelaw29_Long.j2, List.any_cons]
      cases hy : longF y with
      | true => exact Ev.pos (by first | trivial | rfl) (Ev.now _)
      | false =>
        refine Ev.neg (by decide) ?_
        have e2 : wrap64 ((pre.length : Int) + 1) = ((pre ++ [y]).length : Int) := by
          rw [wrap64_id (by unfold I64; omega)]; simp
        rw [e2, show pre ++ y :: ys = (pre ++ [y]) ++ ys by simp, Bool.false_or]
        exact long_l0 ys (pre ++ [y]) (by simp; omega)
    by_cases c1 : (y.f1.length : Int) > 300
    · refine Ev.pos c1 ?_
      by_cases c2 : (y.f1.length : Int) < 60000
      · exact Ev.pos c2 (step true (by unfold longF; rw [decide_eq_true (.inl ⟨c1, c2⟩)]))
      · refine Ev.neg c2 (step _ ?_)
        unfold longF
        exact decide_eq_decide.2 ⟨fun h => .inr h, fun h => h.elim (fun q => absurd q.2 c2) id⟩
    · refine Ev.neg c1 (step _ ?_)
      unfold longF
      exact decide_eq_decide.2 ⟨fun h => .inr h, fun h => h.elim (fun q => absurd q.1 c1) id⟩
def fits (xs : List S41) (t : List Int) : Prop := t.length ≤ 300 ∧ xs.length ≤ 20 ∧ ∀ x ∈ xs, x.f1.length ≤ 70000
theorem long_ex (xs : List S41) (t : List Int) : ∃ b, Ev (fun k => horologelaw29_Long.f k xs t) b ∧ (b = false → fits xs t) := by
  unfold horologelaw29_Long.f
  by_cases c1 : (t.length : Int) > 300
  · refine ⟨true, Ev.pos c1 (Ev.up ?_), fun h => by cases h⟩
    simp only [horologelaw29_Long.j0]
    exact Ev.pos (by first | trivial | rfl) (Ev.now _)
  by_cases c2 : (xs.length : Int) > 20
  · refine ⟨true, Ev.neg c1 (Ev.up ?_), fun h => by cases h⟩
    simp only [horologelaw29_Long.j0]
    exact Ev.pos (decide_eq_true c2) (Ev.now _)
  refine ⟨xs.any longF, Ev.neg c1 (Ev.up ?_), fun h => ⟨by omega, by omega, fun x hx => ?_⟩⟩
  · simp only [horologelaw29_Long.j0]
    exact Ev.neg (by rw [decide_eq_false c2]; decide) (long_l0 xs [] (by simp; omega))
  · have := List.any_eq_false.1 h x hx
    unfold longF at this
    simp only [decide_eq_true_eq] at this
    omega
theorem next_is {α : Type} {pre : List α} {y : α} (h : pre.length < 4398046511104) : wrap64 ((pre.length : Int) + 1) = ((pre ++ [y]).length : Int) := by
  rw [wrap64_id (by unfold I64; omega)]; simp
/-! the key -/
theorem size32_is : Ev (fun k => octets_Size_uint32.f k) 4 := Ev.of (fun k => octets_Size_uint32.mono k) (k := 10) (by kernel_rfl)
def num4 (a b c d : Int) : Int := ((a * 256 + b) * 256 + c) * 256 + d
theorem word32_is {a b c d : Int} (ha : Byte a) (hb : Byte b) (hc : Byte c) (hd : Byte d) : Ev (fun k => octets_word_uint32.f k [a, b, c, d]) (num4 a b c d) := by
  have h := ha; have h' := hb; have h'' := hc; have h3 := hd
  unfold Byte at h h' h'' h3
  show Ev (fun k => octets_word_uint32.l0 k 0 [a, b, c, d] 4 0) _
  refine Ev.up ?_
  simp only [octets_word_uint32.l0]
  refine Ev.pos (by decide) (Ev.pos (by decide) (Ev.pos (by simp) ?_))
  rw [show rd [a, b, c, d] 0 = a from rfl, or_byte (by omega) ha, show wrap64 (0 + 1) = 1 by unfold wrap64; omega, show (0 : Int) * 256 + a = a by omega]
  refine Ev.up ?_
  simp only [octets_word_uint32.l0]
  refine Ev.pos (by decide) (Ev.pos (by decide) (Ev.pos (by simp) ?_))
  rw [show rd [a, b, c, d] 1 = b from rfl, or_byte (by omega) hb, show wrap64 (1 + 1) = 2 by unfold wrap64; omega]
  refine Ev.up ?_
  simp only [octets_word_uint32.l0]
  refine Ev.pos (by decide) (Ev.pos (by decide) (Ev.pos (by simp) ?_))
  rw [show rd [a, b, c, d] 2 = c from rfl, or_byte (by omega) hc, show wrap64 (2 + 1) = 3 by unfold wrap64; omega]
  refine Ev.up ?_
  simp only [octets_word_uint32.l0]
  refine Ev.pos (by decide) (Ev.pos (by decide) (Ev.pos (by simp) ?_))
  rw [show rd [a, b, c, d] 3 = d from rfl, or_byte (by omega) hd, show wrap64 (3 + 1) = 4 by unfold wrap64; omega]
  refine Ev.up ?_
  simp only [octets_word_uint32.l0]
  refine Ev.neg (by decide) (Ev.cast (Ev.now _) ?_)
  unfold num4; omega
theorem value_is {a b c d : Int} (ha : Byte a) (hb : Byte b) (hc : Byte c) (hd : Byte d) : Ev (fun k => horologeref03_Value.f k [a, b, c, d]) (num4 a b c d) := by
  unfold Byte at ha hb hc hd
  have w : ∀ x y : Int, 0 ≤ x → x < 16777216 → 0 ≤ y ∧ y ≤ 255 → IntKind.u64.wrap (IntKind.u64.wrap (x * 256) + IntKind.u64.wrap y) = x * 256 + y := by
    intro x y h0 h1 hy
    rw [wrap_u64, wrap_u64, wrap_u64]; omega
  unfold horologeref03_Value.f
  refine Ev.up ?_
  simp only [horologeref03_Value.l0]
  refine Ev.pos (by simp) (Ev.pos (by decide) ?_)
  rw [show rd [a, b, c, d] 0 = a from rfl, w 0 a (by omega) (by omega) ha, show wrap64 (0 + 1) = 1 by unfold wrap64; omega, show (0 : Int) * 256 + a = a by omega]
  refine Ev.up ?_
  simp only [horologeref03_Value.l0]
  refine Ev.pos (by simp) (Ev.pos (by decide) ?_)
  rw [show rd [a, b, c, d] 1 = b from rfl, w _ b (by omega) (by omega) hb, show wrap64 (1 + 1) = 2 by unfold wrap64; omega]
  refine Ev.up ?_
  simp only [horologeref03_Value.l0]
  refine Ev.pos (by simp) (Ev.pos (by decide) ?_)
  rw [show rd [a, b, c, d] 2 = c from rfl, w _ c (by omega) (by omega) hc, show wrap64 (2 + 1) = 3 by unfold wrap64; omega]
  refine Ev.up ?_
  simp only [horologeref03_Value.l0]
  refine Ev.pos (by simp) (Ev.pos (by decide) ?_)
  rw [show rd [a, b, c, d] 3 = d from rfl, w _ d (by omega) (by omega) hd, show wrap64 (3 + 1) = 4 by unfold wrap64; omega]
  refine Ev.up ?_
  simp only [horologeref03_Value.l0]
  exact Ev.neg (by simp) (Ev.cast (Ev.now _) (by unfold num4; rfl))
theorem key_long {xs : List S41} {a b c d : Int} {r : List Int} (ha : Byte a) (hb : Byte b) (hc : Byte c) (hd : Byte d) (hl : (a :: b :: c :: d :: r).length ≤ 300) : Ev (fun k => ext_Key.f k xs (a :: b :: c :: d :: r)) (num4 a b c d, true) := by
  simp only [List.length_cons] at hl
  unfold ext_Key.f
  refine Ev.bind (a := (num4 a b c d, none)) ?_ (Ev.pos (by first | trivial | rfl) (Ev.now _))
  unfold octets_Get_uint32.f
  refine Ev.bind size32_is ?_
  refine Ev.bind (a := ([a, b, c, d], none)) ?_ (Ev.pos (by first | trivial | rfl) (Ev.bind (word32_is ha hb hc hd) (Ev.now _)))
  unfold octets_from.f
  refine Ev.neg (by decide) (Ev.neg (by simp only [List.length_cons]; omega) (Ev.up ?_))
  simp only [octets_from.j0, List.length_cons]
  rw [show wrap64 (0 + 4) = 4 by unfold wrap64; omega, wrap64_id (n := ((r.length + 1 + 1 + 1 + 1 : Nat) : Int) - 0) (by unfold I64; omega)]
  exact Ev.neg (by decide) (Ev.neg (by omega) (Ev.pos (by decide) (Ev.pos (by decide) (Ev.pos (by omega) (Ev.now _)))))
theorem key_short {xs : List S41} {t : List Int} (hl : t.length < 4) : Ev (fun k => ext_Key.f k xs t) (0, false) := by
  unfold ext_Key.f
  refine Ev.bind (a := (0, some 4)) ?_ (Ev.neg (by simp) (Ev.now _))
  unfold octets_Get_uint32.f
  refine Ev.bind size32_is ?_
  refine Ev.bind (a := ([], some 4)) ?_ (Ev.neg (by simp) (Ev.now _))
  unfold octets_from.f
  refine Ev.neg (by decide) (Ev.neg (by omega) (Ev.up ?_))
  simp only [octets_from.j0]
  rw [wrap64_id (n := (t.length : Int) - 0) (by unfold I64; omega)]
  exact Ev.neg (by decide) (Ev.pos (by omega) (Ev.now _))
/-! fields by their types -/
def findS (a : Int) : List S41 → List Int × Bool
  | [] => ([], false)
  | y :: ys => if y.f0 = a then (y.f1, true) else findS a ys
def firstI (a : Int) : List S41 → Nat → Int
  | [], _ => -1
  | y :: ys, n => if y.f0 = a then (n : Int) else firstI a ys (n + 1)
theorem find_l0 (a : Int) : ∀ (ys pre : List S41), pre.length + ys.length < 4398046511104 → (∀ y ∈ ys, y.f1.length ≤ 70000) → Ev (fun k => ext_Find.l0 k a (pre ++ ys) ((pre ++ ys).length : Int) (pre.length : Int)) (findS a ys)
  | [], pre, _, _ => by
    refine Ev.up ?_
    simp only [ext_Find.l0]
    exact Ev.neg (by simp) (Ev.now _)
  | y :: ys, pre, h, hy => by
    simp only [List.length_cons] at h
    refine Ev.up ?_
    simp only [ext_Find.l0]
    refine Ev.pos (by simp only [List.length_append, List.length_cons]; omega) (Ev.pos (by omega) (Ev.pos (by simp only [List.length_append, List.length_cons]; omega) ?_))
    rw [rd41_mid]
    by_cases c : y.f0 = a
    · have hcl : slices_Clone_byte_byte.f y.f1 = some y.f1 := by unfold slices_Clone_byte_byte.f; rw [if_pos (by have := hy y (by simp); omega)]
      refine Ev.pos c (Ev.bindc hcl (Ev.cast (Ev.now _) ?_))
      simp only [findS]; rw [if_pos c]
    · refine Ev.neg c ?_
      rw [next_is (y := y) (by omega), show pre ++ y :: ys = (pre ++ [y]) ++ ys by simp]
      refine Ev.cast (find_l0 a ys (pre ++ [y]) (by simp; omega) (fun z hz => hy z (by simp [hz]))) ?_
      simp only [findS]; rw [if_neg c]
theorem find_first (a : Int) : ∀ (ys pre : List S41), (firstI a ys pre.length = -1 ∧ findS a ys = ([], false)) ∨ ∃ j : Nat, firstI a ys pre.length = (j : Int) ∧ j < (pre ++ ys).length ∧ findS a ys = ((rd_T41 (pre ++ ys) (j : Int)).f1, true)
  | [], pre => .inl ⟨rfl, rfl⟩
  | y :: ys, pre => by
    by_cases c : y.f0 = a
    · refine .inr ⟨pre.length, by simp [firstI, c], by simp, ?_⟩
      rw [rd41_mid]; simp [findS, c]
    · have ih := find_first a ys (pre ++ [y])
      simp only [List.length_append, List.length_singleton, List.append_assoc, List.singleton_append] at ih
      simp only [firstI, findS, if_neg c]
      simpa using ih
/-! which tails are the same, by the document -/
def doc (x : S41) : S69 := ⟨x.f0, x.f1⟩
theorem doc_l0 (t : List Int) : ∀ (ys pre : List S41) (acc : List S69), pre.length + ys.length < 4398046511104 → acc.length + ys.length < 4398046511104 → Ev (fun k => horologelaw29_Document.l0 k (pre ++ ys) ((pre ++ ys).length : Int) (pre.length : Int) acc t) (acc ++ ys.map doc, t)
  | [], pre, acc, _, _ => by
    refine Ev.up ?_
    simp only [horologelaw29_Document.l0]
    exact Ev.neg (by simp) (Ev.cast (Ev.now _) (by simp))
  | y :: ys, pre, acc, h, h2 => by
    simp only [List.length_cons] at h h2
    refine Ev.up ?_
    simp only [horologelaw29_Document.l0]
    refine Ev.pos (by simp only [List.length_append, List.length_cons]; omega) (Ev.pos (by omega) (Ev.pos (by simp only [List.length_append, List.length_cons]; omega) (Ev.pos (by omega) ?_)))
    rw [rd41_mid, next_is (y := y) (by omega), show pre ++ y :: ys = (pre ++ [y]) ++ ys by simp]
    exact Ev.cast (doc_l0 t ys (pre ++ [y]) (acc ++ [doc y]) (by simp; omega) (by simp; omega)) (by simp)
theorem doc_is (xs : List S41) (t : List Int) (h : xs.length ≤ 20) : Ev (fun k => horologelaw29_Document.f k xs t) (xs.map doc, t) := by
  unfold horologelaw29_Document.f
  exact Ev.cast (doc_l0 t xs [] [] (by simp; omega) (by simp; omega)) (by simp)
theorem rd69_mid (pre ys : List S69) (y : S69) : rd_T69 (pre ++ y :: ys) (pre.length : Int) = y := by unfold rd_T69; simp
theorem rsame_l0 (t u : List Int) : ∀ (xs ys : List S41) (p q : List S69), p.length = q.length → xs.length = ys.length → p.length + xs.length < 4398046511104 → Ev (fun k => horologeref29_Same.l0 k (p.length : Int) (p ++ xs.map doc) t (q ++ ys.map doc) u) (extSames xs ys)
  | [], [], p, q, _, _, _ => by
    refine Ev.up ?_
    simp only [horologeref29_Same.l0]
    exact Ev.neg (by simp) (Ev.now _)
  | x :: xs, [], p, q, _, h, _ => by simp at h
  | [], y :: ys, p, q, _, h, _ => by simp at h
  | x :: xs, y :: ys, p, q, hpq, h, hl => by
    simp only [List.length_cons] at h hl
    have r1 : rd_T69 (p ++ (x :: xs).map doc) (p.length : Int) = doc x := by rw [List.map_cons, rd69_mid]
    have r2 : rd_T69 (q ++ (y :: ys).map doc) (p.length : Int) = doc y := by rw [hpq, List.map_cons, rd69_mid]
    refine Ev.up ?_
    simp only [horologeref29_Same.l0]
    refine Ev.pos (by simp only [List.length_append, List.length_map, List.length_cons]; omega) (Ev.pos (by omega) (Ev.pos (by simp only [List.length_append, List.length_map, List.length_cons]; omega) ?_))
    rw [r1, r2]
    by_cases c1 : x.f0 = y.f0
    · refine Ev.pos c1 ?_
      by_cases c2 : (strOfNums x.f1).toList = (strOfNums y.f1).toList
      · refine Ev.pos c2 ?_
        rw [next_is (y := doc x) (by omega), List.map_cons, List.map_cons, show p ++ doc x :: xs.map doc = (p ++ [doc x]) ++ xs.map doc by simp, show q ++ doc y :: ys.map doc = (q ++ [doc y]) ++ ys.map doc by simp]
        refine Ev.cast (rsame_l0 t u xs ys (p ++ [doc x]) (q ++ [doc y]) (by simp [hpq]) (by omega) (by simp; omega)) ?_
        simp [extSames, extAlike, c1, c2]
      · exact Ev.neg c2 (Ev.cast (Ev.now _) (by simp [extSames, extAlike, c2]))
    · exact Ev.neg c1 (Ev.cast (Ev.now _) (by simp [extSames, extAlike, c1]))
theorem rsame_is (xs : List S41) (t : List Int) (ys : List S41) (u : List Int) (h : xs.length ≤ 20) (h2 : ys.length ≤ 20) : Ev (fun k => horologeref29_Same.f k (xs.map doc) t (ys.map doc) u) (sameB xs t ys u) := by
  unfold horologeref29_Same.f sameB
  simp only [List.length_map]
  by_cases c : xs.length = ys.length
  · rw [if_pos c]
    refine Ev.pos (by omega) (Ev.up ?_)
    simp only [horologeref29_Same.j0]
    by_cases e : (strOfNums t).toList = (strOfNums u).toList
    · refine Ev.neg (by simp [e]) ?_
      refine Ev.cast (rsame_l0 t u xs ys [] [] rfl c (by simp; omega)) ?_
      cases extSames xs ys <;> simp [e]
    · refine Ev.pos (by simp [e]) (Ev.cast (Ev.now _) ?_)
      cases extSames xs ys <;> simp [e]
  · rw [if_neg c]
    refine Ev.neg (by omega) (Ev.up ?_)
    simp only [horologeref29_Same.j0]
    exact Ev.pos (by first | trivial | rfl) (Ev.now _)
/-! the law -/
theorem j4_is (xs : List S41) (t : List Int) (ys : List S41) (u : List Int) (h : xs.length ≤ 20) (h2 : ys.length ≤ 20) : Ev (fun k => horologelaw29_ExtParts.j4 k false xs t ys u) true := by
  refine Ev.up ?_
  simp only [horologelaw29_ExtParts.j4]
  refine Ev.neg (by decide) (Ev.bindc (same_is _ _ _ _) (Ev.bind (doc_is xs t h) (Ev.bind (doc_is ys u h2) (Ev.bind (rsame_is xs t ys u h h2) ?_))))
  refine Ev.pos (by simp) (Ev.bindc (same_is _ _ _ _) ?_)
  rw [sameB_refl]; exact Ev.now _
def endI (p f : Int) : Int := if p < 0 then (if f = -1 then p else f) else p
theorem endI_nat (n : Nat) (f : Int) : endI (n : Int) f = (n : Int) := by unfold endI; rw [if_neg (by omega)]
theorem endI_new {p : Int} (hp : p < 0) (n : Nat) : endI p (n : Int) = (n : Int) := by unfold endI; rw [if_pos hp, if_neg (by omega)]
theorem endI_old {p : Int} (hp : ¬ p < 0) (f g : Int) : endI p f = endI p g := by unfold endI; rw [if_neg hp, if_neg hp]
theorem endI_start (f : Int) : endI (-1) f = f := by unfold endI; rw [if_pos (by decide)]; split <;> omega
theorem loop_is (a : Int) (W : ByteArray) (f1 : List Int) (f2 : Bool) (X : List S41) (t : List Int) (Y : List S41) (u : List Int) (r : Bool) : ∀ (ys pre : List S41) (s p : Int), 0 ≤ s → s + ((ys.flatMap encF).length : Int) < 4611686018427387904 → pre.length + ys.length < 4398046511104 →
    Ev (fun k => horologelaw29_ExtParts.l0 k a W f1 f2 (s + ((ys.flatMap encF).length : Int)) (endI p (firstI a ys pre.length)) (pre ++ ys) ((pre ++ ys).length : Int) ((pre ++ ys).length : Int) X t Y u) r →
    Ev (fun k => horologelaw29_ExtParts.l0 k a W f1 f2 s p (pre ++ ys) ((pre ++ ys).length : Int) (pre.length : Int) X t Y u) r
  | [], pre, s, p, _, _, _, h => by
    have e : endI p (firstI a [] pre.length) = p := by unfold endI firstI; split <;> simp
    rw [e] at h
    simpa using h
  | y :: ys, pre, s, p, h0, h1, h2, h => by
    have hfl : ((y :: ys).flatMap encF).length = y.f1.length + 4 + (ys.flatMap encF).length := by rw [List.flatMap_cons, List.length_append, encF_length]
    rw [hfl] at h1 h
    simp only [List.length_cons] at h2
    refine Ev.up ?_
    simp only [horologelaw29_ExtParts.l0]
    refine Ev.pos (by simp only [List.length_append, List.length_cons]; omega) (Ev.pos (by omega) (Ev.pos (by simp only [List.length_append, List.length_cons]; omega) ?_))
    rw [rd41_mid]
    have e1 : wrap64 (s + wrap64 (4 + (y.f1.length : Int))) = s + (y.f1.length + 4) := by
      rw [wrap64_id (n := 4 + (y.f1.length : Int)) (by unfold I64; omega), wrap64_id (by unfold I64; omega)]; omega
    have e5 : s + ((y.f1.length + 4 + (ys.flatMap encF).length : Nat) : Int) = s + (y.f1.length + 4) + ((ys.flatMap encF).length : Int) := by omega
    rw [e1, next_is (y := y) (by omega)]
    rw [e5] at h
    have e4 : pre ++ y :: ys = (pre ++ [y]) ++ ys := by simp
    have el : pre.length + 1 = (pre ++ [y]).length := by simp
    rw [e4] at h ⊢
    by_cases c1 : p < 0
    · refine Ev.pos c1 ?_
      by_cases c2 : y.f0 = a
      · refine Ev.pos c2 ?_
        refine loop_is a W f1 f2 X t Y u r ys (pre ++ [y]) _ _ (by omega) (by omega) (by simp; omega) ?_
        rw [show firstI a (y :: ys) pre.length = (pre.length : Int) by simp [firstI, c2], endI_new c1] at h
        rw [endI_nat]
        exact h
      · refine Ev.neg c2 ?_
        refine loop_is a W f1 f2 X t Y u r ys (pre ++ [y]) _ _ (by omega) (by omega) (by simp; omega) ?_
        rw [show firstI a (y :: ys) pre.length = firstI a ys (pre ++ [y]).length by simp [firstI, c2]] at h
        exact h
    · refine Ev.neg c1 ?_
      refine loop_is a W f1 f2 X t Y u r ys (pre ++ [y]) _ _ (by omega) (by omega) (by simp; omega) ?_
      rw [endI_old c1 _ (firstI a (y :: ys) pre.length)]
      exact h
theorem word_ex (xs : List S41) (t : List Int) : ∃ W, ext_Word.f xs t = some W ∧ ∀ a Y u r, Ev (fun k => horologelaw29_ExtParts.j2 k a W xs t Y u) r → Ev (fun k => horologelaw29_ExtParts.j1 k a false xs t Y u) r := by
  unfold ext_Word.f
  by_cases c0 : (t.length : Int) = 0
  · exact ⟨_, by rw [if_pos c0], fun a Y u r h => Ev.up (by simp only [horologelaw29_ExtParts.j1]; exact Ev.neg (by decide) (Ev.pos c0 h))⟩
  by_cases c1 : (t.length : Int) = 4
  · exact ⟨_, by rw [if_neg c0, if_pos c1], fun a Y u r h => Ev.up (by simp only [horologelaw29_ExtParts.j1]; exact Ev.neg (by decide) (Ev.neg c0 (Ev.pos c1 h)))⟩
  by_cases c2 : (t.length : Int) = 12
  · exact ⟨_, by rw [if_neg c0, if_neg c1, if_pos c2], fun a Y u r h => Ev.up (by simp only [horologelaw29_ExtParts.j1]; exact Ev.neg (by decide) (Ev.neg c0 (Ev.neg c1 (Ev.pos c2 h))))⟩
  by_cases c3 : (t.length : Int) = 20
  · exact ⟨_, by rw [if_neg c0, if_neg c1, if_neg c2, if_pos c3], fun a Y u r h => Ev.up (by simp only [horologelaw29_ExtParts.j1]; exact Ev.neg (by decide) (Ev.neg c0 (Ev.neg c1 (Ev.neg c2 (Ev.pos c3 h)))))⟩
  by_cases c4 : (t.length : Int) = 24
  · exact ⟨_, by rw [if_neg c0, if_neg c1, if_neg c2, if_neg c3, if_pos c4], fun a Y u r h => Ev.up (by simp only [horologelaw29_ExtParts.j1]; exact Ev.neg (by decide) (Ev.neg c0 (Ev.neg c1 (Ev.neg c2 (Ev.neg c3 (Ev.pos c4 h))))))⟩
  · exact ⟨_, by rw [if_neg c0, if_neg c1, if_neg c2, if_neg c3, if_neg c4], fun a Y u r h => Ev.up (by simp only [horologelaw29_ExtParts.j1]; exact Ev.neg (by decide) (Ev.neg c0 (Ev.neg c1 (Ev.neg c2 (Ev.neg c3 (Ev.neg c4 h))))))⟩
theorem flat_len : ∀ (xs : List S41), (∀ x ∈ xs, x.f1.length ≤ 70000) → (xs.flatMap encF).length ≤ 70004 * xs.length
  | [], _ => by simp
  | x :: xs, h => by
    have := flat_len xs (fun y hy => h y (by simp [hy]))
    have := h x (by simp)
    rw [List.flatMap_cons, List.length_append, encF_length, List.length_cons]; omega
theorem j1_is (a : Int) (xs : List S41) (t : List Int) (ys : List S41) (u : List Int) (hf : fits xs t) (hg : fits ys u) : Ev (fun k => horologelaw29_ExtParts.j1 k a false xs t ys u) true := by
  obtain ⟨f1, f2, f3⟩ := hf
  have hfl := flat_len xs f3
  have hel : (enc xs t).length = (xs.flatMap encF).length + t.length := by unfold enc; rw [List.length_append]
  obtain ⟨W, hW, hj⟩ := word_ex xs t
  refine hj a ys u true (Ev.up ?_)
  simp only [horologelaw29_ExtParts.j2]
  refine Ev.bind (a := findS a xs) (find_l0 a xs [] (by simp; omega) f3) ?_
  refine loop_is a W _ _ xs t ys u true xs [] (t.length : Int) (-1) (by omega) (by omega) (by simp; omega) ?_
  rw [endI_start]
  have hend := j4_is xs t ys u f2 hg.2.1
  refine Ev.up ?_
  simp only [horologelaw29_ExtParts.l0, List.nil_append]
  refine Ev.neg (by omega) (Ev.bindc hW (Ev.pos (by first | trivial | rfl) (Ev.bind (length_is xs t (by omega) (by omega)) (Ev.pos (by omega) ?_))))
  rcases find_first a xs [] with ⟨h1, h2⟩ | ⟨j, h1, h2, h3⟩
  · rw [h1, h2]
    exact Ev.neg (by decide) (Ev.neg (by decide) hend)
  · rw [h1, h3]
    simp only [List.nil_append] at h2 ⊢
    refine Ev.neg (by simp) (Ev.pos (by first | trivial | rfl) (Ev.pos (by omega) (Ev.pos (by omega) ?_)))
    exact Ev.bindc (show horologenum_Bytes.f _ _ = some true by unfold horologenum_Bytes.f; simp) (Ev.pos (by first | trivial | rfl) hend)
theorem j0_is (a : Int) (xs : List S41) (t : List Int) (ys : List S41) (u : List Int) (hf : fits xs t) (hg : fits ys u) (ht : ∀ y ∈ t, Byte y) : Ev (fun k => horologelaw29_ExtParts.j0 k a false xs t ys u) true := by
  have hend := j1_is a xs t ys u hf hg
  refine Ev.up ?_
  simp only [horologelaw29_ExtParts.j0]
  refine Ev.neg (by decide) ?_
  match t, hf, ht, hend with
  | p :: q :: v :: w :: r, hf, ht, hend =>
    have hp := ht p (by simp)
    have hq := ht q (by simp)
    have hv := ht v (by simp)
    have hw := ht w (by simp)
    refine Ev.bind (key_long hp hq hv hw hf.1) ?_
    have e : decide (((p :: q :: v :: w :: r).length : Int) ≥ 4) = true := decide_eq_true (by simp only [List.length_cons]; omega)
    simp only [e]
    refine Ev.neg (by decide) (Ev.pos (by first | trivial | rfl) (Ev.pos (by simp only [List.length_cons]; omega) ?_))
    refine Ev.bind (value_is hp hq hv hw) (Ev.pos ?_ hend)
    unfold Byte at hp hq hv hw
    rw [wrap_u64]; unfold num4; omega
  | [], hf, ht, hend => exact Ev.bind (key_short (by simp)) (Ev.neg (by decide) (Ev.neg (by decide) hend))
  | [_], hf, ht, hend => exact Ev.bind (key_short (by simp)) (Ev.neg (by simp) (Ev.neg (by decide) hend))
  | [_, _], hf, ht, hend => exact Ev.bind (key_short (by simp)) (Ev.neg (by simp) (Ev.neg (by decide) hend))
  | [_, _, _], hf, ht, hend => exact Ev.bind (key_short (by simp)) (Ev.neg (by simp) (Ev.neg (by decide) hend))
theorem parts_true (a : Int) (xs : List S41) (t : List Int) (ys : List S41) (u : List Int) : Ev (fun k => horologelaw29_ExtParts.j0 k a true xs t ys u) true := by
  refine Ev.up ?_
  simp only [horologelaw29_ExtParts.j0]
  exact Ev.pos (by first | trivial | rfl) (Ev.now _)
end Go.Proofs.Ytnlcegcnaamnoaa.MExtParts
namespace Go.Proofs.Ytnlcegcnaamnoaa.Pure
open Go.RowKit Go.Proofs.Ytnlcegcnaamnoaa.MExtParts Go.Proofs.YtnlcegcnaamnoaaW.PrintWords Go.Proofs.YtnlcegcnaamnoaaW.PrintLast Go.Proofs.YtnlcegcnaamnoaaW.PrintMore Go.Proofs.Ytnlcegcnaamnoaa.Base
theorem ExtParts : horologelaw29_ExtParts.Pure := by
  intro xs t ys u a hok hok2 ha
  obtain ⟨⟨_, hx⟩, _, ht0⟩ := hok
  have ht : ∀ y ∈ t, Byte y := fun y hy => byte_of (ht0 y hy)
  refine Ev.ok (Ev.bind alive_is (Ev.pos (by first | trivial | rfl) ?_))
  obtain ⟨b, hE, hf⟩ := long_ex xs t
  refine Ev.bind hE ?_
  cases b with
  | true => exact Ev.pos (by first | trivial | rfl) (parts_true _ _ _ _ _)
  | false =>
  refine Ev.neg (by decide) ?_
  obtain ⟨b, hE2, hg⟩ := long_ex ys u
  refine Ev.bind hE2 ?_
  cases b with
  | true => exact parts_true _ _ _ _ _
  | false => exact j0_is a xs t ys u (hf rfl) (hg rfl) ht
end Go.Proofs.Ytnlcegcnaamnoaa.Pure
