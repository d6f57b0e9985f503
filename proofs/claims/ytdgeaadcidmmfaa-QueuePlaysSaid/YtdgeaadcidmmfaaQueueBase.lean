/-
  A queue on a channel: what its functions answer, by what lies in it.
-/
import Derived.Test.YtdgeaadcidmmfaaChecked
import Derived.Test.YtdgeaadcidmmfaaMemBase
import Derived.Conc.LoneCalls
import Derived.Conc.LoneSelect
import Derived.Conc.LoneSelectN
import Derived.WalkKit
import Derived.WalkSpells
import Derived.KernelRfl
import Derived.Laws.Rows
namespace Go.Proofs.Ytdgeaadcidmmfaa
set_option linter.unusedVariables false
set_option linter.unusedSimpArgs false
open Go.Conc Go.RowKit Go.Proofs.YtdgeaadcidmmfaaW.PrintWords Go.Proofs.YtdgeaadcidmmfaaW.PrintLast

/-- A queue at g: its channel c, with room cap, what lies in it. -/
structure QAt (t : Nat) (w : World) (g c cap : Nat) (buf : List Value) (s r : Nat) : Prop where
  box : w.heap[g]? = some (.cells #[.chan (some c)] t (0, 0))
  ch : w.heap[c]? = some (.chan cap buf.toArray false s r false)
theorem QAt.ne {t g c cap : Nat} {w : World} {buf : List Value} {s r : Nat} (h : QAt t w g c cap buf s r) : g ≠ c := by
  intro e
  subst e
  have := h.box.symm.trans h.ch
  simp at this
theorem QAt.set {t g c cap : Nat} {w : World} {buf : List Value} {s r : Nat} (h : QAt t w g c cap buf s r) (buf' : List Value) (s' r' : Nat) : QAt t (w.setChan c cap buf'.toArray false s' r' false) g c cap buf' s' r' := by
  refine ⟨?_, ?_⟩
  · simp only [World.setChan]
    rw [Array.getElem?_setIfInBounds_ne h.ne.symm]
    exact h.box
  · exact heap_setChan w c cap _ false s' r' false (blk_lt h.ch)
/-- Another queue. -/
theorem QAt.other {t g c cap c' cap' : Nat} {w : World} {buf : List Value} {s r : Nat} (h : QAt t w g c cap buf s r) (hc : c ≠ c') (hg : g ≠ c') (buf' : Array Value) (s' r' : Nat) : QAt t (w.setChan c' cap' buf' false s' r' false) g c cap buf s r := by
  refine ⟨?_, ?_⟩
  · simp only [World.setChan]
    rw [Array.getElem?_setIfInBounds_ne hg.symm]
    exact h.box
  · simp only [World.setChan]
    rw [Array.getElem?_setIfInBounds_ne hc.symm]
    exact h.ch
theorem QAt.below {t g c cap : Nat} {w w' : World} {buf : List Value} {s r : Nat} (h : QAt t w g c cap buf s r) (hb : Below w.heap.size w w') : QAt t w' g c cap buf s r :=
  ⟨(hb.block g (blk_lt h.box)).trans h.box, (hb.block c (blk_lt h.ch)).trans h.ch⟩
set_option maxRecDepth 100000 in
theorem put_room_str (w : World) (g c cap : Nat) (buf : List Value) (s r : Nat) (x : ByteArray) (H : QAt 64 w g c cap buf s r) (hr : buf.length < cap) :
    Calls Try.prog 15 #[.pointer (some ⟨g, 0, none⟩), Value.string x] w fun e w' => e = .returned (.bool true) ∧ w' = w.setChan c cap (buf ++ [Value.string x]).toArray false (s + 1) r false := by
  refine calls_of_loneTo fun cs => ?_
  have e : Frame.enter Try.prog 15 #[.pointer (some ⟨g, 0, none⟩), Value.string x] .normal = (base 15).at ⟨#[.pointer (some ⟨g, 0, none⟩), Value.string x, undef, undef, undef, undef, undef, undef, undef, undef, undef, undef, undef, undef, undef], []⟩ [.code (Try.f15.body.getD .skip)] := by
    simp [Frame.enter, Frame.at, Try.func15, base, Try.f15]
  rw [e]
  have hcell : w.cell? ⟨g, 0, none⟩ = some (.chan (some c)) := (blk_cell H.box 0).trans rfl
  refine LoneTo.goes (n := 40) ?_
  simp only [Try.f15, Option.getD_some]
  repeat (first | s_c stepG_seq | s_c stepG_region_end | s_c stepG_skip | s_c stepG_block | s_cond false | s_cond true | s_reg | s_op)
  s_stop
  refine LoneTo.step (step_lone_select_send_room (c := c) (cap := cap) (buf := buf.toArray) (s := s) (r := r) (tm := false) (v := Value.string x) (z' := Value.string ByteArray.empty)
    (stepG_comm (cases := #[scase c (Value.string x) (Value.string ByteArray.empty)]) (blocking := false) (shape := .select) (w' := w) rfl rfl (by decide) (by simp [go_sem, execOp, scase, Act.eval]; try rfl)) H.ch (by simpa using hr)) ?_
  rw [Frame.finish_at]
  walk_nrm
  refine LoneTo.goes (n := 40) ?_
  repeat (first | s_c stepG_seq | s_c stepG_region_end | s_c stepG_skip | s_c stepG_block | s_cond false | s_cond true | s_reg | s_op)
  s_c stepG_ret'
  s_stop
  exact LoneTo.done ⟨.returned (.bool true), _, rfl, ⟨rfl, by simp⟩, rfl, rfl, rfl, rfl, _, Try.func15, by simp [results, Try.f15, Frame.at]⟩
set_option maxRecDepth 100000 in
theorem put_full_str (w : World) (g c cap : Nat) (buf : List Value) (s r : Nat) (x : ByteArray) (H : QAt 64 w g c cap buf s r) (hr : cap ≤ buf.length) :
    Calls Try.prog 15 #[.pointer (some ⟨g, 0, none⟩), Value.string x] w fun e w' => e = .returned (.bool false) ∧ w' = w := by
  refine calls_of_loneTo fun cs => ?_
  have e : Frame.enter Try.prog 15 #[.pointer (some ⟨g, 0, none⟩), Value.string x] .normal = (base 15).at ⟨#[.pointer (some ⟨g, 0, none⟩), Value.string x, undef, undef, undef, undef, undef, undef, undef, undef, undef, undef, undef, undef, undef], []⟩ [.code (Try.f15.body.getD .skip)] := by
    simp [Frame.enter, Frame.at, Try.func15, base, Try.f15]
  rw [e]
  have hcell : w.cell? ⟨g, 0, none⟩ = some (.chan (some c)) := (blk_cell H.box 0).trans rfl
  refine LoneTo.goes (n := 40) ?_
  simp only [Try.f15, Option.getD_some]
  repeat (first | s_c stepG_seq | s_c stepG_region_end | s_c stepG_skip | s_c stepG_block | s_cond false | s_cond true | s_reg | s_op)
  s_stop
  refine LoneTo.step (step_lone_select_send_full (c := c) (cap := cap) (buf := buf.toArray) (s := s) (r := r) (tm := false) (v := Value.string x) (z' := Value.string ByteArray.empty)
    (stepG_comm (cases := #[scase c (Value.string x) (Value.string ByteArray.empty)]) (blocking := false) (shape := .select) (w' := w) rfl rfl (by decide) (by simp [go_sem, execOp, scase, Act.eval]; try rfl)) H.ch (by simpa using hr)) ?_
  rw [Frame.finish_at]
  walk_nrm
  refine LoneTo.goes (n := 40) ?_
  repeat (first | s_c stepG_seq | s_c stepG_region_end | s_c stepG_skip | s_c stepG_block | s_cond false | s_cond true | s_c stepG_inBlock | s_reg | s_op)
  s_c stepG_ret'
  s_stop
  exact LoneTo.done ⟨.returned (.bool false), _, rfl, ⟨rfl, rfl⟩, rfl, rfl, rfl, rfl, _, Try.func15, by simp [results, Try.f15, Frame.at]⟩
set_option maxRecDepth 100000 in
theorem take_some_str (w : World) (g c cap : Nat) (buf : List Value) (s r : Nat) (x : ByteArray) (H : QAt 64 w g c cap (Value.string x :: buf) s r) :
    Calls Try.prog 16 #[.pointer (some ⟨g, 0, none⟩)] w fun e w' => e = .returned (.tuple #[Value.string x, .bool true]) ∧ w' = w.setChan c cap buf.toArray false s (r + 1) false := by
  refine calls_of_loneTo fun cs => ?_
  have e : Frame.enter Try.prog 16 #[.pointer (some ⟨g, 0, none⟩)] .normal = (base 16).at ⟨#[.pointer (some ⟨g, 0, none⟩), undef, undef, undef, undef, undef, undef, undef, undef, undef, undef, undef, undef, undef, undef, undef, undef, undef, undef], []⟩ [.code (Try.f16.body.getD .skip)] := by
    simp [Frame.enter, Frame.at, Try.func16, base, Try.f16]
  rw [e]
  have hcell : w.cell? ⟨g, 0, none⟩ = some (.chan (some c)) := (blk_cell H.box 0).trans rfl
  refine LoneTo.goes (n := 40) ?_
  simp only [Try.f16, Option.getD_some]
  repeat (first | s_c stepG_seq | s_c stepG_region_end | s_c stepG_skip | s_c stepG_block | s_cond false | s_cond true | s_reg | s_op)
  s_stop
  refine LoneTo.step (step_lone_select_recv_buf (c := c) (cap := cap) (buf := (Value.string x :: buf).toArray) (closed := false) (s := s) (r := r) (tm := false) (z := Value.string ByteArray.empty)
    (stepG_comm (cases := #[rcase c (Value.string ByteArray.empty)]) (blocking := false) (shape := .select) (w' := w) rfl rfl (by decide) (by simp [go_sem, execOp, rcase, Act.eval]; try rfl)) H.ch (by simp)) ?_
  rw [Frame.finish_at]
  have e0 : ((Value.string x :: buf).toArray).getD 0 undef = Value.string x := rfl
  have e1 : ((Value.string x :: buf).toArray).extract 1 ((Value.string x :: buf).toArray).size = buf.toArray := by simp
  rw [e0, e1]
  walk_nrm
  refine LoneTo.goes (n := 40) ?_
  repeat (first | s_c stepG_seq | s_c stepG_region_end | s_c stepG_skip | s_c stepG_block | s_cond false | s_cond true | s_c stepG_inBlock | s_reg | s_op)
  s_c stepG_ret'
  s_stop
  exact LoneTo.done ⟨.returned (.tuple #[Value.string x, .bool true]), _, rfl, ⟨rfl, rfl⟩, rfl, rfl, rfl, rfl, _, Try.func16, by simp [results, Try.f16, Frame.at, go_sem]; try rfl⟩
set_option maxRecDepth 100000 in
theorem take_none_str (w : World) (g c cap : Nat) (s r : Nat) (H : QAt 64 w g c cap [] s r) :
    Calls Try.prog 16 #[.pointer (some ⟨g, 0, none⟩)] w fun e w' => e = .returned (.tuple #[Value.string ByteArray.empty, .bool false]) ∧ w' = w := by
  refine calls_of_loneTo fun cs => ?_
  have e : Frame.enter Try.prog 16 #[.pointer (some ⟨g, 0, none⟩)] .normal = (base 16).at ⟨#[.pointer (some ⟨g, 0, none⟩), undef, undef, undef, undef, undef, undef, undef, undef, undef, undef, undef, undef, undef, undef, undef, undef, undef, undef], []⟩ [.code (Try.f16.body.getD .skip)] := by
    simp [Frame.enter, Frame.at, Try.func16, base, Try.f16]
  rw [e]
  have hcell : w.cell? ⟨g, 0, none⟩ = some (.chan (some c)) := (blk_cell H.box 0).trans rfl
  refine LoneTo.goes (n := 40) ?_
  simp only [Try.f16, Option.getD_some]
  repeat (first | s_c stepG_seq | s_c stepG_region_end | s_c stepG_skip | s_c stepG_block | s_cond false | s_cond true | s_reg | s_op)
  s_stop
  refine LoneTo.step (step_lone_select_default (c := c) (cap := cap) (s := s) (r := r) (tm := false) (z := Value.string ByteArray.empty)
    (stepG_comm (cases := #[rcase c (Value.string ByteArray.empty)]) (blocking := false) (shape := .select) (w' := w) rfl rfl (by decide) (by simp [go_sem, execOp, rcase, Act.eval]; try rfl)) H.ch) ?_
  rw [Frame.finish_at]
  walk_nrm
  refine LoneTo.goes (n := 40) ?_
  repeat (first | s_c stepG_seq | s_c stepG_region_end | s_c stepG_skip | s_c stepG_block | s_cond false | s_cond true | s_c stepG_inBlock | s_reg | s_op)
  s_c stepG_ret'
  s_stop
  exact LoneTo.done ⟨.returned (.tuple #[Value.string ByteArray.empty, .bool false]), _, rfl, ⟨rfl, rfl⟩, rfl, rfl, rfl, rfl, _, Try.func16, by simp [results, Try.f16, Frame.at, go_sem]; try rfl⟩
theorem len_is_str (w : World) (g c cap : Nat) (buf : List Value) (s r : Nat) (H : QAt 64 w g c cap buf s r) :
    Calls Try.prog 19 #[.pointer (some ⟨g, 0, none⟩)] w fun e w' => e = .returned (.int .i64 buf.length) ∧ w' = w := by
  have hcell : w.cell? ⟨g, 0, none⟩ = some (.chan (some c)) := (blk_cell H.box 0).trans rfl
  have hlen := fun ty => run_len_chan (P := Try.prog) 62 ty Try.underlying62 H.ch
  simp only [List.size_toArray] at hlen
  go_enter Try.func19, Try.ntmps19
  go_wp2
  go_ret
  exact ⟨rfl, rfl⟩
theorem new_bad_str (n : Int) (w : World) (h : n < 1 ∨ 64 < n) : Calls Try.prog 12 #[.int .i64 n] w fun e w' => e = .returned (.tuple #[.pointer none, .iface 46 (.int .i64 1)]) ∧ w' = w := by
  by_cases h1 : n < 1
  · have c1 : decide (n < 1) = true := decide_eq_true h1
    clear h h1
    go_enter Try.func12, Try.ntmps12
    go_wp2
    go_ret2
    exact ⟨rfl, rfl⟩
  · have c1 : decide (n < 1) = false := decide_eq_false h1
    have c2 : decide (64 < n) = true := decide_eq_true (by omega)
    clear h h1
    go_enter Try.func12, Try.ntmps12
    go_wp2
    go_ret2
    exact ⟨rfl, rfl⟩
theorem bytes_str : ∃ i, Try.prog.info? 9 = some i ∧ i.bytes ≤ 64 := by
  have h : ((Try.prog.info? 9).map (·.bytes)).any (· ≤ 64) = true := by kernel_rfl
  obtain ⟨b, hb, hh⟩ := Option.any_eq_true _ _ |>.mp h
  obtain ⟨i, hi, rfl⟩ := Option.map_eq_some_iff.1 hb
  exact ⟨i, hi, by simpa using hh⟩
theorem mk_str (n : Int) (h1 : 1 ≤ n) (h2 : n ≤ 64) (w : World) : (Instr.makeChan 62 (.int .i64 n)).run Try.prog w = .ok (.chan (some w.heap.size)) (w.alloc (.chan n.toNat #[] false 0 0 false)) := by
  obtain ⟨i, hi, hb⟩ := bytes_str
  obtain ⟨m, rfl⟩ : ∃ m : Nat, n = (m : Int) := ⟨n.toNat, by omega⟩
  have hm : i.bytes * m ≤ 64 * 64 := Nat.mul_le_mul hb (by omega)
  simpa using run_makeChan (P := Try.prog) (w := w) Try.underlying62 hi .i64 m (by omega) (by omega)
theorem new_ok_str (n : Int) (w : World) (h1 : 1 ≤ n) (h2 : n ≤ 64) : Calls Try.prog 12 #[.int .i64 n] w fun e w' => ∃ g c, e = .returned (.tuple #[.pointer (some ⟨g, 0, none⟩), .nilIface]) ∧ QAt 64 w' g c n.toNat [] 0 0 ∧ w.heap.size ≤ g ∧ w.heap.size ≤ c ∧ Below w.heap.size w w' := by
  have c1 : decide (n < 1) = false := decide_eq_false (by omega)
  have c2 : decide (64 < n) = false := decide_eq_false (by omega)
  have hmk := mk_str n h1 h2
  clear h1 h2
  go_enter Try.func12, Try.ntmps12
  go_wp2
  go_ret2
  refine ⟨w.heap.size + 1, w.heap.size, rfl, ⟨?_, ?_⟩, by omega, Nat.le_refl _, below_alloc (below_alloc (Below.refl _ _) _) _⟩
  · have := blk_new (w.alloc (.chan n.toNat #[] false 0 0 false)) (.cells #[.chan (some w.heap.size)] 64 (0, 0))
    rw [World.size_alloc] at this
    exact this
  · exact blk_below (blk_new w _) (below_alloc (Below.refl _ _) _)
end Go.Proofs.Ytdgeaadcidmmfaa
