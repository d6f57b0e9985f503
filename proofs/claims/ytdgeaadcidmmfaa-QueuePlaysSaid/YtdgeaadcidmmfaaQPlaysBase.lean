/-
  What the queue's functions do, told of lists of texts.
-/
import Derived.Test.YtdgeaadcidmmfaaQueueBase
import Derived.Test.YtdgeaadcidmmfaaMQueuePlaysx
import Derived.LaidEqlPtr
namespace Go.Proofs.Ytdgeaadcidmmfaa
set_option linter.unusedVariables false
set_option linter.unusedSimpArgs false
open Go.Conc Go.RowKit Go.Proofs.YtdgeaadcidmmfaaW.PrintWords Go.Proofs.YtdgeaadcidmmfaaW.PrintLast Go.Proofs.YtdgeaadcidmmfaaW.PrintMore Go.Proofs.Ytdgeaadcidmmfaa.MQueuePlays

/-- A queue of texts. -/
def QL (w : World) (g c cap : Nat) (l : List ByteArray) : Prop := ∃ s r, QAt 64 w g c cap (l.map Value.string) s r
/-- What a call keeps: all but the blocks of S, and what is new; the outside. -/
structure Kept (w W : World) (S : Nat → Prop) : Prop where
  size : w.heap.size ≤ W.heap.size
  block : ∀ i, i < w.heap.size → ¬ S i → W.heap[i]? = w.heap[i]?
  os : W.os = w.os
  tape : W.tape = w.tape
  output : W.output = w.output
section
variable {w W W2 : World} {S S2 S' : Nat → Prop}
theorem Kept.refl (w : World) (S : Nat → Prop) : Kept w w S := ⟨Nat.le_refl _, fun _ _ _ => rfl, rfl, rfl, rfl⟩
theorem Kept.of_below (h : Below w.heap.size w W) (S : Nat → Prop) : Kept w W S := ⟨h.size, fun i hi _ => h.block i hi, h.os, h.tape, h.output⟩
theorem Kept.mono (h : Kept w W S) (hs : ∀ k, S k → S' k) : Kept w W S' := ⟨h.1, fun i hi hn => h.2 i hi (fun hk => hn (hs i hk)), h.os, h.tape, h.output⟩
theorem Kept.then_ (h : Kept w W S) (k : Kept W W2 S2) (hs : ∀ k, S2 k → S k ∨ w.heap.size ≤ k) : Kept w W2 S :=
  ⟨Nat.le_trans h.1 k.1, fun i hi hn => (k.2 i (Nat.lt_of_lt_of_le hi h.1) (fun h2 => (hs i h2).elim hn (fun h3 => by omega))).trans (h.2 i hi hn), k.os.trans h.os, k.tape.trans h.tape, k.output.trans h.output⟩
theorem Kept.of_grown {row : Option Nat} (hg : W.grownBy W2 row) (h : Kept w W S) (hr : ∀ k, row = some k → S k ∨ w.heap.size ≤ k) : Kept w W2 S :=
  h.then_ (S2 := fun k => row = some k) ⟨hg.size, fun i hi hn => hg.block i hi (fun he => hn he.symm), hg.os, hg.tape, hg.output⟩ hr
theorem Kept.below (h : Kept w W S) (hb : Below W.heap.size W W2) : Kept w W2 S := h.then_ (Kept.of_below hb (fun _ => False)) (fun _ hk => hk.elim)
theorem Kept.alloc (h : Kept w W S) (o : Obj) : Kept w (W.alloc o) S := h.below (below_alloc (Below.refl _ _) o)
theorem Kept.drewN (h : Kept w W S) (m : Nat) : Kept w (W.drewN m) S := h.below (pw_below_drewN (Below.refl _ _) m)
theorem Kept.setCell (h : Kept w W S) {p : Addr} (hp : S p.block ∨ w.heap.size ≤ p.block) (u : Value) : Kept w (W.setCell p u) S :=
  h.then_ (S2 := fun k => k = p.block) ⟨by simp [World.setCell], fun i _ hn => Below.heap_setCell W p u i hn, rfl, rfl, rfl⟩ (fun k hk => by rw [hk]; exact hp)
theorem blk_kept {g : Nat} {o : Obj} (hb : W.heap[g]? = some o) (hk : Kept W W2 S) (hne : ¬ S g) : W2.heap[g]? = some o := (hk.2 g (blk_lt hb) hne).trans hb
theorem cell_kept {a : Addr} {v : Value} (hc : W.cell? a = some v) (hk : Kept W W2 S) (hne : ¬ S a.block) : W2.cell? a = some v := by
  have := hk.2 a.block (World.block_lt_of_cell? W a hc) hne
  simpa [World.cell?, this] using hc
theorem Kd.R_kept {α : Type} {d : Go.Proofs.YtdgeaadcidmmfaaW.PrintWords.Kd α} {e base : Nat} {ok : Nat → Prop} {v : Value} {xs : List α} (h : d.R e W base ok v xs) (hk : Kept W W2 S) (hne : ∀ k, ok k → ¬ S k) : d.R e W2 base ok v xs := Go.Proofs.YtdgeaadcidmmfaaW.PrintWords.Kd.R_step h (fun k ho hlt => hk.2 k hlt (hne k ho))
/-- What a call wrote is new since. -/
theorem Kept.new {B : Nat} (h : Below B w W) (hk : Kept W W2 S) (hs : ∀ k, S k → B ≤ k) (hB : B ≤ w.heap.size) : Below B w W2 :=
  ⟨hk.os.trans h.os, hk.tape.trans h.tape, hk.output.trans h.output, Nat.le_trans h.size hk.1, fun k hlt => (hk.2 k (Nat.lt_of_lt_of_le hlt (Nat.le_trans hB h.size)) (fun h2 => by have := hs k h2; omega)).trans (h.block k hlt)⟩
end
theorem QL.kept {w w' : World} {g c cap : Nat} {l : List ByteArray} {S : Nat → Prop} (h : QL w g c cap l) (k : Kept w w' S) (hg : ¬ S g) (hc : ¬ S c) : QL w' g c cap l := by
  obtain ⟨s, r, h⟩ := h
  exact ⟨s, r, (k.2 g (blk_lt h.box) hg).trans h.box, (k.2 c (blk_lt h.ch) hc).trans h.ch⟩
theorem QL.lt {w : World} {g c cap : Nat} {l : List ByteArray} (h : QL w g c cap l) : g < w.heap.size ∧ c < w.heap.size := by
  obtain ⟨s, r, h⟩ := h
  exact ⟨blk_lt h.box, blk_lt h.ch⟩
theorem kept_chan (w : World) (c cap : Nat) (b : Array Value) (s r : Nat) : Kept w (w.setChan c cap b false s r false) (fun k => k = c) := by
  refine ⟨?_, fun i hi hn => ?_, rfl, rfl, rfl⟩
  · simp [World.setChan]
  · simp only [World.setChan]
    rw [Array.getElem?_setIfInBounds_ne (fun e => hn e.symm)]
def hd (l : List ByteArray) : ByteArray := l.headD ByteArray.empty
def ne (l : List ByteArray) : Bool := !l.isEmpty
def putl (cap : Nat) (l : List ByteArray) (x : ByteArray) : List ByteArray := if l.length < cap then l ++ [x] else l
theorem put_c (w : World) (g c cap : Nat) (l : List ByteArray) (x : ByteArray) (H : QL w g c cap l) :
    Calls Try.prog 15 #[.pointer (some ⟨g, 0, none⟩), .string x] w fun e w' => e = .returned (.bool (decide (l.length < cap))) ∧ QL w' g c cap (putl cap l x) ∧ Kept w w' (fun k => k = c) := by
  obtain ⟨s, r, H⟩ := H
  unfold putl
  by_cases h : l.length < cap
  · rw [decide_eq_true h, if_pos h]
    refine (put_room_str w g c cap _ s r x H (by simpa using h)).mono ?_
    rintro e w' ⟨rfl, rfl⟩
    exact ⟨rfl, ⟨_, _, by rw [List.map_append]; exact H.set _ _ _⟩, kept_chan _ _ _ _ _ _⟩
  · rw [decide_eq_false h, if_neg h]
    refine (put_full_str w g c cap _ s r x H (by simpa using h)).mono ?_
    rintro e w' ⟨rfl, rfl⟩
    exact ⟨rfl, ⟨_, _, H⟩, Kept.refl _ _⟩
theorem take_c (w : World) (g c cap : Nat) (l : List ByteArray) (H : QL w g c cap l) :
    Calls Try.prog 16 #[.pointer (some ⟨g, 0, none⟩)] w fun e w' => e = .returned (.tuple #[.string (hd l), .bool (ne l)]) ∧ QL w' g c cap l.tail ∧ Kept w w' (fun k => k = c) := by
  obtain ⟨s, r, H⟩ := H
  cases l with
  | nil =>
    refine (take_none_str w g c cap s r H).mono ?_
    rintro e w' ⟨rfl, rfl⟩
    exact ⟨rfl, ⟨_, _, H⟩, Kept.refl _ _⟩
  | cons x l =>
    refine (take_some_str w g c cap _ s r x H).mono ?_
    rintro e w' ⟨rfl, rfl⟩
    exact ⟨rfl, ⟨_, _, H.set _ _ _⟩, kept_chan _ _ _ _ _ _⟩
theorem len_c (w : World) (g c cap : Nat) (l : List ByteArray) (H : QL w g c cap l) :
    Calls Try.prog 19 #[.pointer (some ⟨g, 0, none⟩)] w fun e w' => e = .returned (.int .i64 l.length) ∧ w' = w := by
  obtain ⟨s, r, H⟩ := H
  have h := len_is_str w g c cap _ s r H
  rwa [List.length_map] at h
theorem room_c (w : World) (g c cap : Nat) (l : List ByteArray) (H : QL w g c cap l) :
    Calls Try.prog 20 #[.pointer (some ⟨g, 0, none⟩)] w fun e w' => e = .returned (.int .i64 cap) ∧ w' = w := by
  obtain ⟨s, r, H⟩ := H
  have hcell : w.cell? ⟨g, 0, none⟩ = some (.chan (some c)) := (blk_cell H.box 0).trans rfl
  have hlen := fun ty => run_cap_chan (P := Try.prog) 62 ty Try.underlying62 H.ch
  go_enter Try.func20, Try.ntmps20
  go_wp2
  go_ret
  exact ⟨rfl, rfl⟩
set_option maxHeartbeats 4000000 in
set_option maxRecDepth 100000 in
theorem drain_c (w : World) (g c cap : Nat) (l : List ByteArray) (H : QL w g c cap l) (hl : l.length ≤ 64) :
    Calls Try.prog 22 #[.pointer (some ⟨g, 0, none⟩)] w fun e w' => ∃ v, e = .returned v ∧ Kd.R Kd.string 9 w' w.heap.size (fun k => w.heap.size ≤ k) v l ∧ QL w' g c cap [] ∧ Kept w w' (fun k => k = c) := by
  have HLT := Aside0.mk H.lt
  have HL := Aside0.mk hl
  have HQ := Aside0.mk H
  clear H hl
  go_enter Try.func22, Try.ntmps22
  go_wp2_with (first | (go_at_call 16; refine (take_c _ g c cap l HQ.out).mono ?_; rintro e w1 ⟨rfl, hq, hk⟩; have Q1 := Aside0.mk hq; have K1 := Aside0.mk hk; clear hq hk) | fail)
  go_loopg [3, 4, 5] (l.length + 1) (fun n v3 v4 v5 wr => ∃ (pre cur : List ByteArray), v4 = .string (hd cur) ∧ v5 = .bool (ne cur) ∧ Aside0 (l = pre ++ cur) ∧ Aside0 (cur.length < n) ∧ Aside0 (Kd.R Kd.string 9 wr w.heap.size (fun k => w.heap.size ≤ k) v3 pre) ∧ Aside0 (QL wr g c cap cur.tail) ∧ Aside0 (Kept w wr (fun k => k = c)))
  case atStart => exact ⟨[], l, rfl, rfl, ⟨rfl⟩, ⟨by omega⟩, ⟨Kd.R_nil _ _ _ _ _⟩, Q1, K1⟩
  case round =>
    clear Q1 K1 HQ
    obtain ⟨pre, cur, rfl, rfl, HE, HN, HR, Q, K⟩ := hrel
    cases cur with
    | nil =>
      have he : l = pre := by have := HE.out; simpa using this
      subst he
      simp only [ne, List.isEmpty_nil, Bool.not_true]
      go_wp2
      go_ret
      exact ⟨_, rfl, HR.out, Q.out, K.out⟩
    | cons x cur =>
      obtain ⟨k1, rfl⟩ : ∃ k1, gk = k1 + 1 := ⟨gk - 1, by have := HN.out; simp at this; omega⟩
      have hn1 : ne (x :: cur) = true := rfl
      have hd1 : hd (x :: cur) = x := rfl
      have htl : (x :: cur).tail = cur := rfl
      rw [hn1, hd1]
      rw [htl] at Q
      clear hn1 hd1 htl
      have hsz := Aside0.mk K.out.1
      have hbnd : Aside0 ((pre.length + 1) * 16 ≤ 140737488355328) := ⟨by have := HE.out; have h2 := HL.out; rw [this] at h2; simp at h2; omega⟩
      obtain ⟨Ao, co, eo⟩ := Kd.R_slice HR.out
      subst eo
      go_wp2_with (first | ((with_reducible refine gate_builtin (b := .append) (xs := #[.tmp 17, .tmp 19]) rfl ?_); at_builtin; refine Kd.R_append Kd.string (w0 := wr) w.heap.size rfl (.tmp 17) (.tmp 19) 39 9 (.string ⟨#[]⟩) 16 rfl Try.underlying39 info9 rfl (by decide) (by omega) _ pre x [.string x] (fun k_ => w.heap.size ≤ k_) (fun _ => False) rfl rfl ?aP (fun _ hk => hk.elim) ?aF ?aO ?aB ?aS ?aL ?_; (case aP => exact rfl); (case aB => exact Below.refl _ _); (case aF => exact fun k_ hk => Nat.le_trans hsz.out hk); (case aO => exact HR.out); (case aS => exact hsz.out); (case aL => exact hbnd.out); intro v1 w1 ho hb hg hat; have HR1 := Aside0.mk ho; have hne : some c ≠ (Value.slice Ao pre.length co).ownBlock := (fun e => absurd (HR.out.1 c e.symm) (by have := HLT.out.2; omega)); have hne2 : some g ≠ (Value.slice Ao pre.length co).ownBlock := (fun e => absurd (HR.out.1 g e.symm) (by have := HLT.out.1; omega)); have K1 := Aside0.mk (Kept.of_grown hg K.out (fun k hk => .inr (HR.out.1 k hk))); have Q1 := Aside0.mk (show QL w1 g c cap cur from (by obtain ⟨s, r, q⟩ := Q.out; exact ⟨s, r, blk_grown q.box hg hne2, blk_grown q.ch hg hne⟩)); clear ho hb hg hat hne hne2 HR Q K; obtain ⟨Ao1, co1, eo1⟩ := Kd.R_slice HR1.out; subst eo1) | (go_at_call 16; refine (take_c _ g c cap cur Q1.out).mono ?_; rintro e w2 ⟨rfl, hq, hk⟩; have Q2 := Aside0.mk hq; have K2 := Aside0.mk (K1.out.then_ hk (fun k hk => .inl hk)); have HR2 := Aside0.mk (Kd.R_kept HR1.out hk (fun k hk e => absurd hk (by have := HLT.out.2; omega))); clear hq hk) | fail)
      go_roundg k1
      case measure => omega
      case rel => exact ⟨pre ++ [x], cur, rfl, rfl, ⟨by have := HE.out; simpa using this⟩, ⟨by have := HN.out; simp at this; omega⟩, ⟨by have h := HR2.out; rw [List.length_append] at h; exact h⟩, Q2, K2⟩
theorem putl_take {l : List ByteArray} {cap k : Nat} (hc : l.length ≤ cap) (hk : k < l.length) : putl cap (l.take k) (rdOf ByteArray.empty l (k : Int)) = l.take (k + 1) := by
  unfold putl
  rw [if_pos (by rw [List.length_take]; omega), List.take_add_one, List.getElem?_eq_getElem hk]
  unfold rdOf
  simp [List.getElem?_eq_getElem hk]
set_option maxHeartbeats 4000000 in
set_option maxRecDepth 100000 in
theorem list_c (w : World) (g c cap : Nat) (l : List ByteArray) (H : QL w g c cap l) (hl : l.length ≤ cap) (h64 : cap ≤ 64) :
    Calls Try.prog 21 #[.pointer (some ⟨g, 0, none⟩)] w fun e w' => ∃ v, e = .returned v ∧ Kd.R Kd.string 9 w' w.heap.size (fun k => w.heap.size ≤ k) v l ∧ QL w' g c cap l ∧ Kept w w' (fun k => k = c) := by
  have HLT := Aside0.mk H.lt
  have HL := Aside0.mk hl
  have HQ := Aside0.mk H
  have HD := fun W (h : QL W g c cap l) => drain_c W g c cap l h (by omega)
  clear H hl
  go_enter Try.func21, Try.ntmps21
  go_wp2_with (first | (go_at_call 22; refine (HD _ HQ.out).mono ?_; rintro e w1 ⟨v, rfl, hr, hq, hk⟩; have Q1 := Aside0.mk hq; have K1 := Aside0.mk hk; have R1 := Aside0.mk hr; clear hq hk hr; obtain ⟨Ao, co, eo⟩ := Kd.R_slice R1.out; subst eo) | fail)
  clear HD HQ
  go_loopw [10] (fun i wr => ∃ k : Nat, k ≤ l.length ∧ i = .int .i64 k ∧ Aside0 (Kd.R Kd.string 9 wr w.heap.size (fun k => w.heap.size ≤ k) (.slice Ao l.length co) l) ∧ Aside0 (QL wr g c cap (l.take k)) ∧ Aside0 (Kept w wr (fun k => k = c))) (fun i _ => l.length - (intOf i).toNat)
  case atStart => exact ⟨0, by omega, rfl, R1, Q1, K1⟩
  case round =>
    clear Q1 K1 R1
    obtain ⟨k, hk, rfl, HR, Q, K⟩ := hrel
    by_cases hlt : k < l.length
    · obtain ⟨ad, rfl, hcell⟩ := Kd.at_string (Kd.R_reads' HR.out).2.2 (k : Int) (by omega) (by omega)
      simp only [Int.toNat_natCast] at hcell
      have HX := Aside0.mk (putl_take HL.out hlt)
      have hk64 : (k : Int) ≤ 64 := by have := HL.out; omega
      generalize rdOf ByteArray.empty l (k : Int) = x at hcell HX
      go_wp2_with (first | (go_at_call 15; refine (put_c _ g c cap _ x Q.out).mono ?_; rintro e w2 ⟨rfl, hq, hkk⟩; rw [HX.out] at hq; have Q2 := Aside0.mk hq; have K2 := Aside0.mk (K.out.then_ hkk (fun k hk => .inl hk)); have HR2 := Aside0.mk (Kd.R_kept HR.out hkk (fun k hk e => absurd hk (by have := HLT.out.2; omega))); clear hq hkk) | fail)
      go_roundw
      case rel => exact ⟨k + 1, by omega, by go_num, HR2, Q2, K2⟩
      case measure => simp [intOf]; omega
    · obtain rfl : k = l.length := by omega
      go_wp2
      go_ret
      exact ⟨_, rfl, HR.out, by have h := Q.out; rwa [List.take_length] at h, K.out⟩
set_option maxHeartbeats 4000000 in
set_option maxRecDepth 100000 in
theorem peek_c (w : World) (g c cap : Nat) (l : List ByteArray) (H : QL w g c cap l) (hl : l.length ≤ cap) (h64 : cap ≤ 64) :
    Calls Try.prog 17 #[.pointer (some ⟨g, 0, none⟩)] w fun e w' => e = .returned (.tuple #[.string (hd l), .bool (ne l)]) ∧ QL w' g c cap l ∧ Kept w w' (fun k => k = c) := by
  have HD := fun W (h : QL W g c cap l) => list_c W g c cap l h hl h64
  have HQ := Aside0.mk H
  clear H hl h64
  cases l with
  | nil =>
    go_enter Try.func17, Try.ntmps17
    go_wp2_with (first | (go_at_call 21; refine (HD _ HQ.out).mono ?_; rintro e w1 ⟨v, rfl, hr, hq, hk⟩; have Q1 := Aside0.mk hq; have K1 := Aside0.mk hk; have R1 := Aside0.mk hr; clear hq hk hr; obtain ⟨Ao, co, eo⟩ := Kd.R_slice R1.out; subst eo) | fail)
    go_ret2
    exact ⟨rfl, Q1.out, K1.out⟩
  | cons x l =>
    have hd1 : hd (x :: l) = x := rfl
    have hn1 : ne (x :: l) = true := rfl
    rw [hd1, hn1]
    have hb : (((l.length : Int) + 1) == 0) = false := beq_eq_false_iff_ne.2 (by omega)
    have hb0 : decide (((l.length : Int) + 1) = 0) = false := decide_eq_false (by omega)
    go_enter Try.func17, Try.ntmps17
    go_wp2_with (first | (go_at_call 21; refine (HD _ HQ.out).mono ?_; rintro e w1 ⟨v, rfl, hr, hq, hk⟩; have Q1 := Aside0.mk hq; have K1 := Aside0.mk hk; have R1 := Aside0.mk hr; clear hq hk hr; obtain ⟨Ao, co, eo⟩ := Kd.R_slice R1.out; subst eo; obtain ⟨ad, rfl, hcell⟩ := Kd.at_string (Kd.R_reads' R1.out).2.2 0 (by omega) (by simp); simp only [Int.toNat_zero] at hcell; rw [show rdOf ByteArray.empty (x :: l) 0 = x from rfl, show ad.add 0 = ad from (by cases ad; rfl)] at hcell) | fail)
    go_ret2
    exact ⟨rfl, Q1.out, K1.out⟩
theorem take_nilq (w : World) : Calls Try.prog 16 #[.pointer none] w fun e w' => e = .returned (.tuple #[.string ByteArray.empty, .bool false]) ∧ w' = w := by
  go_enter Try.func16, Try.ntmps16
  go_wp2
  go_ret2
  exact ⟨rfl, rfl⟩
theorem take_e (w : World) (g c cap : Nat) (H : QL w g c cap []) :
    Calls Try.prog 16 #[.pointer (some ⟨g, 0, none⟩)] w fun e w' => e = .returned (.tuple #[.string ByteArray.empty, .bool false]) ∧ w' = w := by
  obtain ⟨s, r, H⟩ := H
  exact take_none_str w g c cap s r H
set_option maxHeartbeats 4000000 in
set_option maxRecDepth 100000 in
theorem first_1 (w : World) (g gi ci capi : Nat) (x : ByteArray) (li : List ByteArray) (v1 v2 : Value) (c0 : w.cell? ⟨g, 0, none⟩ = some (.pointer (some ⟨gi, 0, none⟩))) (HI : QL w gi ci capi (x :: li)) :
    Calls Try.prog 18 #[.slice (some ⟨g, 0, none⟩) 3 3] w fun e w' => e = .returned (.tuple #[.string x, .int .i64 0, .bool true]) ∧ QL w' gi ci capi li ∧ Kept w w' (fun k => k = ci) := by
  have HQ := Aside0.mk HI
  clear HI
  go_enter Try.func18, Try.ntmps18
  go_wp2
  go_loopw [12] (fun i wr => i = .int .i64 0 ∧ wr = w) (fun i _ => 0)
  case atStart => exact ⟨rfl, rfl⟩
  case round =>
    obtain ⟨rfl, rfl⟩ := hrel
    go_wp2_with (first | (go_at_call 16; refine (take_c _ gi ci capi _ HQ.out).mono ?_; rintro e w2 ⟨rfl, hq, hk⟩; have hq : QL w2 gi ci capi li := hq; have Q2 := Aside0.mk hq; have K2 := Aside0.mk hk; clear hq hk; rw [show hd (x :: li) = x from rfl, show ne (x :: li) = true from rfl]) | fail)
    go_ret3
    exact ⟨rfl, Q2.out, K2.out⟩
set_option maxHeartbeats 4000000 in
set_option maxRecDepth 100000 in
theorem first_2 (w : World) (g gi ci capi gj cj capj : Nat) (x : ByteArray) (lj : List ByteArray) (c0 : w.cell? ⟨g, 0, none⟩ = some (.pointer (some ⟨gi, 0, none⟩))) (c1 : w.cell? ⟨g, 1, none⟩ = some (.pointer none)) (c2 : w.cell? ⟨g, 2, none⟩ = some (.pointer (some ⟨gj, 0, none⟩))) (HI : QL w gi ci capi []) (HJ : QL w gj cj capj (x :: lj)) :
    Calls Try.prog 18 #[.slice (some ⟨g, 0, none⟩) 3 3] w fun e w' => e = .returned (.tuple #[.string x, .int .i64 2, .bool true]) ∧ QL w' gj cj capj lj ∧ Kept w w' (fun k => k = cj) := by
  have HQ := Aside0.mk HI
  have HP := Aside0.mk HJ
  clear HI HJ
  go_enter Try.func18, Try.ntmps18
  go_wp2
  go_loopw [12] (fun i wr => ∃ k : Nat, k ≤ 2 ∧ i = .int .i64 k ∧ wr = w) (fun i _ => 2 - (intOf i).toNat)
  case atStart => exact ⟨0, by omega, rfl, rfl⟩
  case round =>
    obtain ⟨k, hk, rfl, rfl⟩ := hrel
    obtain rfl | rfl | rfl : k = 0 ∨ k = 1 ∨ k = 2 := by omega
    · go_wp2_with (first | (go_at_call 16; refine (take_e _ gi ci capi HQ.out).mono ?_; rintro e w2 ⟨rfl, rfl⟩) | fail)
      go_roundw
      case rel => exact ⟨1, by omega, by first | rfl | go_num, by first | rfl | trivial⟩
      case measure => simp [intOf]
    · go_wp2_with (first | (go_at_call 16; refine (take_nilq _).mono ?_; rintro e w2 ⟨rfl, rfl⟩) | fail)
      go_roundw
      case rel => exact ⟨2, by omega, by first | rfl | go_num, by first | rfl | trivial⟩
      case measure => simp [intOf]
    · go_wp2_with (first | (go_at_call 16; refine (take_c _ gj cj capj _ HP.out).mono ?_; rintro e w2 ⟨rfl, hq, hk⟩; have hq : QL w2 gj cj capj lj := hq; have Q2 := Aside0.mk hq; have K2 := Aside0.mk hk; clear hq hk; rw [show hd (x :: lj) = x from rfl, show ne (x :: lj) = true from rfl]) | fail)
      go_ret3
      exact ⟨rfl, Q2.out, K2.out⟩
set_option maxHeartbeats 4000000 in
set_option maxRecDepth 100000 in
theorem first_0 (w : World) (g gi ci capi gj cj capj : Nat) (c0 : w.cell? ⟨g, 0, none⟩ = some (.pointer (some ⟨gi, 0, none⟩))) (c1 : w.cell? ⟨g, 1, none⟩ = some (.pointer none)) (c2 : w.cell? ⟨g, 2, none⟩ = some (.pointer (some ⟨gj, 0, none⟩))) (HI : QL w gi ci capi []) (HJ : QL w gj cj capj []) :
    Calls Try.prog 18 #[.slice (some ⟨g, 0, none⟩) 3 3] w fun e w' => e = .returned (.tuple #[.string ByteArray.empty, .int .i64 (-1), .bool false]) ∧ w' = w := by
  have HQ := Aside0.mk HI
  have HP := Aside0.mk HJ
  clear HI HJ
  go_enter Try.func18, Try.ntmps18
  go_wp2
  go_loopw [12] (fun i wr => ∃ k : Nat, k ≤ 3 ∧ i = .int .i64 k ∧ wr = w) (fun i _ => 3 - (intOf i).toNat)
  case atStart => exact ⟨0, by omega, rfl, rfl⟩
  case round =>
    obtain ⟨k, hk, rfl, rfl⟩ := hrel
    obtain rfl | rfl | rfl | rfl : k = 0 ∨ k = 1 ∨ k = 2 ∨ k = 3 := by omega
    · go_wp2_with (first | (go_at_call 16; refine (take_e _ gi ci capi HQ.out).mono ?_; rintro e w2 ⟨rfl, rfl⟩) | fail)
      go_roundw
      case rel => exact ⟨1, by omega, by first | rfl | go_num, by first | rfl | trivial⟩
      case measure => simp [intOf]
    · go_wp2_with (first | (go_at_call 16; refine (take_nilq _).mono ?_; rintro e w2 ⟨rfl, rfl⟩) | fail)
      go_roundw
      case rel => exact ⟨2, by omega, by first | rfl | go_num, by first | rfl | trivial⟩
      case measure => simp [intOf]
    · go_wp2_with (first | (go_at_call 16; refine (take_e _ gj cj capj HP.out).mono ?_; rintro e w2 ⟨rfl, rfl⟩) | fail)
      go_roundw
      case rel => exact ⟨3, by omega, by first | rfl | go_num, by first | rfl | trivial⟩
      case measure => simp [intOf]
    · go_wp2
      go_ret3
      exact ⟨rfl, rfl⟩
/-- How many are moved. -/
def mv (l0 l1 : List ByteArray) (cap1 : Nat) : Nat := min l0.length (cap1 - l1.length)
theorem info64 : ∃ j, Try.prog.info? 64 = some j ∧ j.size ≠ 0 := by
  have h : ((Try.prog.info? 64).map (·.size)).any (fun n => n != 0) = true := by kernel_rfl
  obtain ⟨b, hb, hh⟩ := Option.any_eq_true _ _ |>.mp h
  obtain ⟨i, hi, rfl⟩ := Option.map_eq_some_iff.1 hb
  exact ⟨i, hi, by simpa using hh⟩
set_option maxHeartbeats 4000000 in
set_option maxRecDepth 100000 in
theorem move_same (w : World) (g : Nat) : Calls Try.prog 23 #[.pointer (some ⟨g, 0, none⟩), .pointer (some ⟨g, 0, none⟩)] w fun e w' => e = .returned (.int .i64 0) ∧ w' = w := by
  obtain ⟨j, hj, _⟩ := info64
  have heq := run_eql_ptr_same (P := Try.prog) w ⟨g, 0, none⟩ Try.underlying37 hj
  go_enter Try.func23, Try.ntmps23
  go_wp2
  go_ret
  exact ⟨rfl, rfl⟩
theorem mv_step {l0 l1 : List ByteArray} {cap1 n : Nat} (h : n < l0.length) (h1 : (l1 ++ l0.take n).length < cap1) : putl cap1 (l1 ++ l0.take n) (hd (l0.drop n)) = l1 ++ l0.take (n + 1) := by
  unfold putl
  rw [if_pos h1, List.append_assoc, List.drop_eq_getElem_cons h, List.take_add_one, List.getElem?_eq_getElem h]
  rfl
end Go.Proofs.Ytdgeaadcidmmfaa
