/-
  What the reader of scripts does, told of lists of bytes.
-/
import Derived.Test.YtecbahciplnhfaaMScriptBytesx
import Derived.Test.YtecbahciplnhfaaBase
import Derived.Test.YtecbahciplnhfaaMemBase
namespace Go.Proofs.Ytecbahciplnhfaa
set_option linter.unusedVariables false
set_option linter.unusedSimpArgs false
open Go.RowKit Go.Proofs.YtecbahciplnhfaaW.PrintWords Go.Proofs.YtecbahciplnhfaaW.PrintLast Go.Proofs.YtecbahciplnhfaaW.PrintMore Go.Proofs.Ytecbahciplnhfaa.MScriptBytes Go.Proofs.Ytecbahciplnhfaa.Base
attribute [local go_sem] max2_int min2_int max_two min_two max_three min_three max_four min_four
/-- What a call keeps: all but the blocks of S, and what is new; the outside. -/
structure Kept (w W : World) (S : Nat → Prop) : Prop where
  size : w.heap.size ≤ W.heap.size
  block : ∀ i, i < w.heap.size → ¬ S i → W.heap[i]? = w.heap[i]?
  os : W.os = w.os
  tape : W.tape = w.tape
  output : W.output = w.output
section
variable {w W W2 : World} {S S2 S' : Nat → Prop}
theorem Kept.refl (w : World) (S : Nat → Prop) : Kept w w S := ⟨Nat.le_refl _, fun _ _ _ => rfl, rfl, rfl, rfl⟩
theorem Kept.of_below (h : Below w.heap.size w W) (S : Nat → Prop) : Kept w W S := ⟨h.size, fun i hi _ => h.block i hi, h.os, h.tape, h.output⟩
theorem Kept.mono (h : Kept w W S) (hs : ∀ k, S k → S' k) : Kept w W S' := ⟨h.1, fun i hi hn => h.2 i hi (fun hk => hn (hs i hk)), h.os, h.tape, h.output⟩
theorem Kept.then_ (h : Kept w W S) (k : Kept W W2 S2) (hs : ∀ k, S2 k → S k ∨ w.heap.size ≤ k) : Kept w W2 S :=
  ⟨Nat.le_trans h.1 k.1, fun i hi hn => (k.2 i (Nat.lt_of_lt_of_le hi h.1) (fun h2 => (hs i h2).elim hn (fun h3 => by omega))).trans (h.2 i hi hn), k.os.trans h.os, k.tape.trans h.tape, k.output.trans h.output⟩
theorem Kept.of_grown {row : Option Nat} (hg : W.grownBy W2 row) (h : Kept w W S) (hr : ∀ k, row = some k → S k ∨ w.heap.size ≤ k) : Kept w W2 S :=
  h.then_ (S2 := fun k => row = some k) ⟨hg.size, fun i hi hn => hg.block i hi (fun he => hn he.symm), hg.os, hg.tape, hg.output⟩ hr
theorem Kept.below (h : Kept w W S) (hb : Below W.heap.size W W2) : Kept w W2 S := h.then_ (Kept.of_below hb (fun _ => False)) (fun _ hk => hk.elim)
theorem Kept.alloc (h : Kept w W S) (o : Obj) : Kept w (W.alloc o) S := h.below (below_alloc (Below.refl _ _) o)
theorem Kept.drewN (h : Kept w W S) (m : Nat) : Kept w (W.drewN m) S := h.below (pw_below_drewN (Below.refl _ _) m)
theorem Kept.setCell (h : Kept w W S) {p : Addr} (hp : S p.block ∨ w.heap.size ≤ p.block) (u : Value) : Kept w (W.setCell p u) S :=
  h.then_ (S2 := fun k => k = p.block) ⟨by simp [World.setCell], fun i _ hn => Below.heap_setCell W p u i hn, rfl, rfl, rfl⟩ (fun k hk => by rw [hk]; exact hp)
theorem blk_kept {g : Nat} {o : Obj} (hb : W.heap[g]? = some o) (hk : Kept W W2 S) (hne : ¬ S g) : W2.heap[g]? = some o := (hk.2 g (blk_lt hb) hne).trans hb
theorem cell_kept {a : Addr} {v : Value} (hc : W.cell? a = some v) (hk : Kept W W2 S) (hne : ¬ S a.block) : W2.cell? a = some v := by
  have := hk.2 a.block (World.block_lt_of_cell? W a hc) hne
  simpa [World.cell?, this] using hc
theorem Kd.R_kept {α : Type} {d : Go.Proofs.YtecbahciplnhfaaW.PrintWords.Kd α} {e base : Nat} {ok : Nat → Prop} {v : Value} {xs : List α} (h : d.R e W base ok v xs) (hk : Kept W W2 S) (hne : ∀ k, ok k → ¬ S k) : d.R e W2 base ok v xs := Go.Proofs.YtecbahciplnhfaaW.PrintWords.Kd.R_step h (fun k ho hlt => hk.2 k hlt (hne k ho))
/-- What a call wrote is new since. -/
theorem Kept.new {B : Nat} (h : Below B w W) (hk : Kept W W2 S) (hs : ∀ k, S k → B ≤ k) (hB : B ≤ w.heap.size) : Below B w W2 :=
  ⟨hk.os.trans h.os, hk.tape.trans h.tape, hk.output.trans h.output, Nat.le_trans h.size hk.1, fun k hlt => (hk.2 k (Nat.lt_of_lt_of_le hlt (Nat.le_trans hB h.size)) (fun h2 => by have := hs k h2; omega)).trans (h.block k hlt)⟩
end
theorem or_join {x y : Int} {s : Nat} (hs : s ≤ 64) (h0 : 0 ≤ x) (h1 : x < 18446744073709551616) (hm : x % 2 ^ s = 0) (g0 : 0 ≤ y) (g1 : y < 2 ^ s) : Go.bits .or .u64 x y = x + y :=
  bits_join .u64 64 (by simp [IntKind.bits]) (fun m a b => by rw [wrap_u64]; omega) s x y h0 hm h1 g0 g1 (Int.lt_of_lt_of_le g1 (pow_le_of hs))
def Byte (x : Int) : Prop := 0 ≤ x ∧ x ≤ 255
theorem byte_of {x : Int} (h : (Lit.int .u8 x).wf = true) : Byte x := bounds_u8 h
theorem u16_of {x : Int} (h : (Lit.int .u16 x).wf = true) : 0 ≤ x ∧ x ≤ 65535 := bounds_u16 h
theorem or_byte {x y : Int} (hx : 0 ≤ x ∧ x < 72057594037927936) (hy : Byte y) : Go.bits .or .u64 (IntKind.u64.wrap (x * 256)) (IntKind.u64.wrap y) = x * 256 + y := by
  unfold Byte at hy
  rw [wrap_u64, wrap_u64, show x * 256 % 18446744073709551616 = x * 256 by omega, show y % 18446744073709551616 = y by omega]
  exact or_join (s := 8) (by decide) (by omega) (by omega) (by show x * 256 % 256 = 0; omega) (by omega) (by show y < 256; omega)

/-- A reader at g: what is left to read. -/
structure RB (w : World) (g : Nat) (A : Option Addr) (c : Nat) (l : List Int) : Prop where
  box : w.heap[g]? = some (.cells #[.slice A l.length c] 52 (0, 0))
  row : Kd.C (Kd.int .u8) w A l.length l
  le : l.length ≤ c
  lt : ∀ ad, A = some ad → ad.block < g
theorem RB.cell {w : World} {g : Nat} {A : Option Addr} {c : Nat} {l : List Int} (H : RB w g A c l) : w.cell? ⟨g, 0, none⟩ = some (.slice A l.length c) := (blk_cell H.box 0).trans rfl
theorem RB.drewN {w : World} {g : Nat} {A : Option Addr} {c : Nat} {l : List Int} (H : RB w g A c l) (n : Nat) : RB (w.drewN n) g A c l := ⟨H.box, Kd.C_drewN H.row n, H.le, H.lt⟩
theorem RB.below {w w' : World} {g : Nat} {A : Option Addr} {c : Nat} {l : List Int} (H : RB w g A c l) (hb : Below w.heap.size w w') : RB w' g A c l := ⟨blk_below H.box hb, Kd.C_below H.row hb, H.le, H.lt⟩
theorem nosl (A : Option Addr) (n c : Nat) : ∀ u, u ∈ (#[Value.slice A n c] : Array Value).toList → ∀ x, u ≠ .int .u8 x := by simp
theorem RB.write {w : World} {g : Nat} {A : Option Addr} {c : Nat} {l : List Int} (H : RB w g A c l) (m : Nat) (hm : m ≤ l.length) :
    RB (w.setCell ⟨g, 0, none⟩ (.slice (if c = m then A else A.map (·.add (m * (Kd.int .u8).sz))) (l.length - m) (c - m))) g (if c = m then A else A.map (·.add (m * (Kd.int .u8).sz))) (c - m) (l.drop m) := by
  refine ⟨?_, ?_, ?_, ?_⟩
  · have h := blk_set H.box 0 (.slice (if c = m then A else A.map (·.add (m * (Kd.int .u8).sz))) (l.length - m) (c - m))
    rw [List.length_drop]
    exact h
  · exact C_setInt (Kd.C_drop H.row hm H.le) H.box (nosl _ _ _)
  · rw [List.length_drop]
    have := H.le
    omega
  · intro ad had
    by_cases hcm : c = m
    · rw [if_pos hcm] at had
      exact H.lt ad had
    · rw [if_neg hcm] at had
      obtain ⟨a0, h0, rfl⟩ := Option.map_eq_some_iff.1 had
      have := H.lt a0 h0
      rw [add_block]
      exact this
theorem kept_set (w : World) (g : Nat) (u : Value) : Kept w (w.setCell ⟨g, 0, none⟩ u) (fun k => k = g) := Kept.setCell (S := fun k => k = g) (p := ⟨g, 0, none⟩) (Kept.refl _ _) (.inl rfl) u
set_option maxHeartbeats 4000000 in
set_option maxRecDepth 100000 in
theorem take_c (w : World) (g : Nat) (A : Option Addr) (c : Nat) (l : List Int) (many : Nat) (H : RB w g A c l) :
    Calls Try.prog 35 #[.pointer (some ⟨g, 0, none⟩), .int .i64 many] w fun e w' => ∃ A2 c2, e = .returned (.slice A (l.take many).length c) ∧ RB w' g A2 c2 (l.drop many) ∧ Kd.C (Kd.int .u8) w' A (l.take many).length (l.take many) ∧ Kept w w' (fun k => k = g) := by
  have hc := H.cell
  have hf := blk_frozen H.box 0
  have hle := H.le
  have HH := Aside0.mk H
  clear H
  by_cases hml : many ≤ l.length
  · have hn : Aside0 ((l.take many).length = many) := ⟨by rw [List.length_take]; omega⟩
    have HT : Aside0 (∀ u, Kd.C (Kd.int .u8) (w.setCell ⟨g, 0, none⟩ u) A (l.take many).length (l.take many)) := ⟨fun u => C_setInt (Kd.C_take HH.out.row hml) HH.out.box (nosl _ _ _)⟩
    have hw := HH.out.write many hml
    by_cases hcm : c = many
    · rw [if_pos hcm] at hw
      subst hcm
      rw [Nat.sub_self, show l.length - c = 0 by omega] at hw
      have HW := Aside0.mk hw
      clear hw
      go_enter Try.func35, Try.ntmps35
      go_wp2
      go_ret
      exact ⟨A, 0, by rw [hn.out]; rfl, HW.out, HT.out _, kept_set _ _ _⟩
    · rw [if_neg hcm] at hw
      have HW := Aside0.mk hw
      clear hw
      have hlt : many < c := by omega
      go_enter Try.func35, Try.ntmps35
      go_wp2
      all_goals first | (exact absurd (by assumption) hcm) | skip
      go_ret
      exact ⟨_, c - many, by rw [hn.out]; rfl, by simpa [Kd.int, Kd.scalar] using HW.out, HT.out _, kept_set _ _ _⟩
  · have hd : Aside0 (l.drop many = l.drop l.length) := ⟨by rw [List.drop_eq_nil_of_le (by omega), List.drop_eq_nil_of_le (Nat.le_refl _)]⟩
    have ht : Aside0 (l.take many = l) := ⟨List.take_of_length_le (by omega)⟩
    have HT : Aside0 (∀ u, Kd.C (Kd.int .u8) (w.setCell ⟨g, 0, none⟩ u) A l.length l) := ⟨fun u => C_setInt HH.out.row HH.out.box (nosl _ _ _)⟩
    have hw := HH.out.write l.length (Nat.le_refl _)
    rw [ht.out, hd.out]
    by_cases hcm : c = l.length
    · rw [if_pos hcm] at hw
      subst hcm
      rw [Nat.sub_self] at hw
      have HW := Aside0.mk hw
      clear hw
      go_enter Try.func35, Try.ntmps35
      go_wp2
      go_ret
      exact ⟨A, 0, rfl, HW.out, HT.out _, kept_set _ _ _⟩
    · rw [if_neg hcm] at hw
      have HW := Aside0.mk hw
      clear hw
      have hlt : l.length < c := by omega
      go_enter Try.func35, Try.ntmps35
      go_wp2
      all_goals first | (exact absurd (by assumption) hcm) | skip
      go_ret
      exact ⟨_, c - l.length, rfl, by simpa [Kd.int, Kd.scalar] using HW.out, HT.out _, kept_set _ _ _⟩
/-- The number of the first so many bytes; those that aren't there are noughts. -/
def NV (l : List Int) : Nat → Int
  | 0 => 0
  | i + 1 => NV l i * 256 + l.getD i 0
def Bytes (l : List Int) : Prop := ∀ x ∈ l, Byte x
theorem Bytes.get {l : List Int} (h : Bytes l) (i : Nat) : Byte (l.getD i 0) := by
  rw [List.getD_eq_getElem?_getD]
  rcases Nat.lt_or_ge i l.length with hi | hi
  · rw [List.getElem?_eq_getElem hi]
    exact h _ (List.getElem_mem hi)
  · rw [List.getElem?_eq_none hi]
    exact ⟨by decide, by decide⟩
theorem Bytes.drop {l : List Int} (h : Bytes l) (i : Nat) : Bytes (l.drop i) := fun x hx => h x (List.mem_of_mem_drop hx)
theorem Bytes.take {l : List Int} (h : Bytes l) (i : Nat) : Bytes (l.take i) := fun x hx => h x (List.mem_of_mem_take hx)
theorem NV_lt {l : List Int} (h : Bytes l) : ∀ i, 0 ≤ NV l i ∧ NV l i < 256 ^ i
  | 0 => ⟨Int.le_refl 0, by show (0 : Int) < 1; decide⟩
  | i + 1 => by
    obtain ⟨h0, h1⟩ := NV_lt h i
    obtain ⟨g0, g1⟩ := h.get i
    simp only [NV]
    rw [Int.pow_succ]
    omega
theorem NV_small {l : List Int} (h : Bytes l) {i : Nat} (hi : i < 8) : 0 ≤ NV l i ∧ NV l i < 72057594037927936 := by
  obtain ⟨h0, h1⟩ := NV_lt h i
  refine ⟨h0, Int.lt_of_lt_of_le h1 ?_⟩
  have h2 : (256 : Nat) ^ i ≤ 256 ^ 7 := Nat.pow_le_pow_right (by decide) (by omega)
  have h3 : ((256 ^ i : Nat) : Int) ≤ ((256 ^ 7 : Nat) : Int) := Int.ofNat_le.2 h2
  rw [Int.natCast_pow] at h3
  exact h3
theorem NV_none {l : List Int} (h : Bytes l) {i : Nat} (hi : i < 8) (hl : l.length ≤ i) : IntKind.u64.wrap (NV l i * 256) = NV l (i + 1) := by
  obtain ⟨h0, h1⟩ := NV_small h hi
  simp only [NV]
  rw [List.getD_eq_getElem?_getD, List.getElem?_eq_none hl, wrap_u64]
  simp only [Option.getD_none]
  omega
theorem NV_some {l : List Int} (h : Bytes l) {i : Nat} (hi : i < 8) (b : Int) (hb : l.getD i 0 = b) : Go.bits .or .u64 (IntKind.u64.wrap (NV l i * 256)) (IntKind.u64.wrap b) = NV l (i + 1) := by
  have hB := h.get i
  rw [hb] at hB
  rw [or_byte (NV_small h hi) hB]
  simp only [NV, hb]
theorem nextw {k n : Nat} (h : k < n) (hn : n ≤ 9223372036854775807) : wrap64 ((k : Int) + 1) = ((k + 1 : Nat) : Int) := by unfold wrap64; omega
theorem measv {n k : Nat} {v : Value} (e : v = .int .i64 ((k + 1 : Nat) : Int)) (h : k < n) : n - (intOf v).toNat < n - (intOf (.int .i64 (k : Int))).toNat := by
  subst e
  show n - (k + 1) < n - k
  omega
set_option maxHeartbeats 4000000 in
set_option maxRecDepth 100000 in
theorem number_c (w : World) (g : Nat) (A : Option Addr) (c : Nat) (l : List Int) (m : Nat) (hm : m ≤ 8) (hb : Bytes l) (H : RB w g A c l) :
    Calls Try.prog 28 #[.pointer (some ⟨g, 0, none⟩), .int .i64 m] w fun e w' => ∃ A2 c2, e = .returned (.int .u64 (NV l m)) ∧ RB w' g A2 c2 (l.drop m) ∧ Kept w w' (fun k => k = g) := by
  have HH := Aside0.mk H
  have HB := Aside0.mk hb
  have HM := Aside0.mk hm
  clear H hb hm
  go_enter Try.func28, Try.ntmps28
  go_wp2_with (first | (go_at_call 35; with_reducible refine (take_c _ g A c l m HH.out).mono ?_; rintro e w1 ⟨A2, c2, rfl, hr, ht, hk⟩; obtain ⟨n, hn⟩ : ∃ n, n = (l.take m).length := ⟨_, rfl⟩; rw [← hn] at ht ⊢; have HN := Aside0.mk hn; clear hn; have R := Aside0.mk hr; have T := Aside0.mk ht; have K := Aside0.mk hk; clear hr ht hk) | fail)
  go_loopw [5, 12] (fun v i wr => ∃ k : Nat, v = .int .u64 (NV l k) ∧ i = .int .i64 k ∧ Aside0 (k ≤ m) ∧ wr = w1) (fun _ i _ => m - (intOf i).toNat)
  case atStart => exact ⟨0, rfl, rfl, ⟨Nat.zero_le _⟩, by first | rfl | trivial⟩
  case round =>
    obtain ⟨k, rfl, rfl, hk, rfl⟩ := hrel
    by_cases hlt : k < m
    · have hstep := nextw hlt (by have := HM.out; omega)
      have HK := Aside0.mk (show k < m ∧ k < 8 from ⟨hlt, by have := HM.out; omega⟩)
      have hlt2 : (k : Int) < (m : Int) := by omega
      by_cases hkl : k < l.length
      · have hl : Aside0 (k < n) := ⟨by rw [HN.out, List.length_take]; omega⟩
        obtain ⟨ad, hA, hcell⟩ := Kd.at_int T.out (k : Int) (by omega) (by have := hl.out; omega)
        subst hA
        simp only [Int.toNat_natCast] at hcell
        have hv : Aside0 (l.getD k 0 = rd (l.take m) (k : Int)) := ⟨by
          unfold rd
          simp only [Int.toNat_natCast, List.getD_eq_getElem?_getD]
          rw [List.getElem?_take_of_lt hlt]⟩
        generalize rd (l.take m) (k : Int) = b at hcell hv
        have hor := NV_some HB.out HK.out.2 b hv.out
        have d1 : (k : Int) < (n : Int) := by have := hl.out; omega
        clear hlt hkl
        go_wp2_with (fail)
        go_roundw
        case measure => exact measv (by rw [hstep]) HK.out.1
        case rel => exact ⟨k + 1, rfl, by rw [hstep], ⟨HK.out.1⟩, by first | rfl | trivial⟩
      · have hl : Aside0 (n ≤ k) := ⟨by rw [HN.out, List.length_take]; omega⟩
        have hnv := NV_none HB.out HK.out.2 (by omega)
        have d1 : ¬ (k : Int) < (n : Int) := by have := hl.out; omega
        clear hlt hkl
        go_wp2_with (fail)
        go_roundw
        case measure => exact measv (by rw [hstep]) HK.out.1
        case rel => exact ⟨k + 1, by first | rfl | rw [hnv], by rw [hstep], ⟨HK.out.1⟩, by first | rfl | trivial⟩
    · obtain rfl : k = m := by have := hk.out; omega
      go_wp2
      go_ret
      exact ⟨A2, c2, rfl, R.out, K.out⟩
theorem number_i (w : World) (g : Nat) (A : Option Addr) (c : Nat) (l : List Int) (mi : Int) (m : Nat) (he : mi = (m : Int)) (hm : m ≤ 8) (hb : Bytes l) (H : RB w g A c l) :
    Calls Try.prog 28 #[.pointer (some ⟨g, 0, none⟩), .int .i64 mi] w fun e w' => ∃ A2 c2, e = .returned (.int .u64 (NV l m)) ∧ RB w' g A2 c2 (l.drop m) ∧ Kept w w' (fun k => k = g) := by
  subst he
  exact number_c w g A c l m hm hb H
theorem wrap_nat {n : Nat} (h : n ≤ 65535) : wrap64 (n : Int) = (n : Int) := by unfold wrap64; omega
/-- A text: its bytes, and what is behind them. -/
def tx (l : List Int) : List Int × List Int := ((l.drop 2).take (NV l 2).toNat, (l.drop 2).drop (NV l 2).toNat)
theorem NV2 {l : List Int} (h : Bytes l) : 0 ≤ NV l 2 ∧ NV l 2 ≤ 65535 := by
  obtain ⟨h0, h1⟩ := NV_lt h 2
  have : (256 : Int) ^ 2 = 65536 := by decide
  omega
set_option maxHeartbeats 4000000 in
set_option maxRecDepth 100000 in
theorem text_c (w : World) (g : Nat) (A : Option Addr) (c : Nat) (l : List Int) (hb : Bytes l) (hl : l.length ≤ 1000000000) (H : RB w g A c l) :
    Calls Try.prog 29 #[.pointer (some ⟨g, 0, none⟩)] w fun e w' => ∃ v A2 c2, e = .returned v ∧ Kd.R (Kd.int .u8) 5 w' w.heap.size (fun k => w.heap.size ≤ k) v (tx l).1 ∧ RB w' g A2 c2 (tx l).2 ∧ Kept w w' (fun k => k = g) := by
  unfold tx
  obtain ⟨nn, hnn⟩ : ∃ nn : Nat, NV l 2 = (nn : Int) := ⟨(NV l 2).toNat, by have := NV2 hb; omega⟩
  have hn65 : nn ≤ 65535 := by have := NV2 hb; omega
  have HN := Aside0.mk hnn
  have HB := Aside0.mk hb
  have HH := Aside0.mk H
  have hw := wrap_nat hn65
  have hw' : IntKind.i64.wrap (nn : Int) = (nn : Int) := by rw [wrap_i64]; exact hw
  rw [hnn]
  simp only [Int.toNat_natCast]
  obtain ⟨yy, hy⟩ : ∃ yy, yy = (l.drop 2).take nn := ⟨_, rfl⟩
  have HY := Aside0.mk hy
  have HYL : Aside0 (slices_Clone_byte_byte.f yy = some yy) := ⟨by unfold slices_Clone_byte_byte.f; rw [if_pos (by rw [hy, List.length_take, List.length_drop]; omega)]⟩
  rw [← hy]
  clear hnn hb H hn65 hl hy
  go_enter Try.func29, Try.ntmps29
  go_wp2_with (fail)
  refine (number_i _ g A c l 2 2 rfl (by decide) HB.out HH.out).mono ?_
  rintro e w1 ⟨A1, c1, rfl, hr, hk⟩
  rw [HN.out]
  have R1 := Aside0.mk hr
  have K1 := Aside0.mk hk
  clear hr hk
  go_wp2_with (fail)
  refine (take_c _ g A1 c1 (l.drop 2) nn R1.out).mono ?_
  rintro e w2 ⟨A2, c2, rfl, hr, ht, hk⟩
  rw [← HY.out] at ht ⊢
  have R2 := Aside0.mk hr
  have K2 := Aside0.mk (K1.out.then_ hk (fun k hk => .inl hk))
  have LE : Aside0 (yy.length ≤ c1) := ⟨by have h1 := R1.out.le; rw [HY.out, List.length_take]; omega⟩
  have T2 := Aside0.mk ht
  clear hr ht hk
  go_wp2_with (fail)
  refine (slices_Clone_byte_byte.calls _ _ _ _ _ T2.out LE.out HYL.out).mono ?_
  rintro e w3 ⟨v, rfl, hr, hb⟩
  have R3 := Aside0.mk (R2.out.below hb)
  have K3 := Aside0.mk (K2.out.below hb)
  have V3 := Aside0.mk (show Kd.R (Kd.int .u8) 5 w3 w.heap.size (fun k => w.heap.size ≤ k) v yy from Kd.R_lower (Kd.R_mono (Kd.R_bound hr) (fun k hk => Nat.le_trans K2.out.size hk.2.1)) K2.out.size)
  clear hr hb
  go_wp2
  go_ret
  exact ⟨_, _, _, rfl, V3.out, R3.out, K3.out⟩
end Go.Proofs.Ytecbahciplnhfaa
