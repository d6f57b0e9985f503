-- This text was written by a program of this session (a changed scratch copy of a tool of the kit; NOTES.md tells the changes).
import Derived.Test.YtnjeemghkpgcfaaMRuleTextsx0
import Derived.Test.YtnjeemghkpgcfaaMRuleTextsx7
import Derived.Test.YtnjeemghkpgcfaaMRuleTextsx11
import Derived.Test.YtnjeemghkpgcfaaMRuleTextsx12
namespace Go.Proofs.Ytnjeemghkpgcfaa.MRuleTexts
open Go.RowKit Go.Proofs.YtnjeemghkpgcfaaW.PrintWords Go.Proofs.YtnjeemghkpgcfaaW.PrintLast Go.Proofs.YtnjeemghkpgcfaaW.PrintMore
attribute [local go_sem] max2_int min2_int max_two min_two max_three min_three max_four min_four   -- for this text's walks alone
set_option linter.unusedVariables false
set_option linter.unusedSimpArgs false

/-! ### horologeref16_Parse: function 27 -/
mutual
def horologeref16_Parse.j1 : Nat → ByteArray → Int → Option (Int × Int × Int × Int × Int × Int)
 | 0, _, _ => none
 | k + 1, x0, x4 => if 0 ≤ x4 then (if x4 ≤ (x0.size : Int) then (if ((x0.extract 0 (x4 : Int).toNat).size : Int) > 0 then (if 0 < ((x0.extract 0 (x4 : Int).toNat).size : Int) then (horologeref16_Parse.j2 k x0 x4 (x0.extract 0 (x4 : Int).toNat) ((bt (x0.extract 0 (x4 : Int).toNat) 0) == 74) 2 0 0 0 7200) else (none)) else (horologeref16_Parse.j2 k x0 x4 (x0.extract 0 (x4 : Int).toNat) false 2 0 0 0 7200)) else (none)) else (none)
def horologeref16_Parse.j2 : Nat → ByteArray → Int → ByteArray → Bool → Int → Int → Int → Int → Int → Option (Int × Int × Int × Int × Int × Int)
 | 0, _, _, _, _, _, _, _, _, _ => none
 | k + 1, x0, x4, x5, x39, x398000, x398001, x398002, x398003, x398004 => if x39 = true then (if 1 ≤ (x5.size : Int) then ((horologeref16_number.f k (x5.extract 1 x5.size) 1 3).bind fun bt398 => (horologeref16_Parse.j8 k x0 x4 bt398.2 1 x398001 x398002 bt398.1 x398004)) else (none)) else (if (x5.size : Int) > 0 then (if 0 < (x5.size : Int) then (horologeref16_Parse.j3 k x0 x4 x5 ((bt x5 0) == 77) x398000 x398001 x398002 x398003 x398004) else (none)) else (horologeref16_Parse.j3 k x0 x4 x5 false x398000 x398001 x398002 x398003 x398004))
def horologeref16_Parse.j8 : Nat → ByteArray → Int → Bool → Int → Int → Int → Int → Int → Option (Int × Int × Int × Int × Int × Int)
 | 0, _, _, _, _, _, _, _, _ => none
 | k + 1, x0, x4, x7, x398000, x398001, x398002, x398003, x398004 => if x7 = true then (if x4 < (x0.size : Int) then (if 0 ≤ (wrap64 (x4 + 1)) then (if (wrap64 (x4 + 1)) ≤ (x0.size : Int) then ((horologeref16_ParseClock.f k (x0.extract ((wrap64 (x4 + 1)) : Int).toNat x0.size) 167).bind fun bt408 => (if bt408.2 = 0 then ((horologeref16_Check.f k x398000 x398001 x398002 x398003 bt408.1).bind fun t410 => (if t410 = 0 then (some (x398000, x398001, x398002, x398003, bt408.1, 0)) else (some (0, 0, 0, 0, 0, t410)))) else (some (0, 0, 0, 0, 0, bt408.2)))) else (none)) else (none)) else ((horologeref16_Check.f k x398000 x398001 x398002 x398003 x398004).bind fun t411 => (if t411 = 0 then (some (x398000, x398001, x398002, x398003, x398004, 0)) else (some (0, 0, 0, 0, 0, t411))))) else (some (0, 0, 0, 0, 0, 2))
def horologeref16_Parse.j3 : Nat → ByteArray → Int → ByteArray → Bool → Int → Int → Int → Int → Int → Option (Int × Int × Int × Int × Int × Int)
 | 0, _, _, _, _, _, _, _, _, _ => none
 | k + 1, x0, x4, x5, x55, x398000, x398001, x398002, x398003, x398004 => if x55 = true then (if 1 ≤ (x5.size : Int) then ((horologeref16_parts.f k (x5.extract 1 x5.size) 46).bind fun t400 => (horologeref16_Parse.l1 k x0 x4 ((t400.length : Int) == 3) t400 0 3 x398001 x398002 x398003 x398004)) else (none)) else ((horologeref16_number.f k x5 1 3).bind fun bt406 => (horologeref16_Parse.j8 k x0 x4 bt406.2 x398000 x398001 x398002 bt406.1 x398004))
def horologeref16_Parse.l1 : Nat → ByteArray → Int → Bool → List ByteArray → Int → Int → Int → Int → Int → Int → Option (Int × Int × Int × Int × Int × Int)
 | 0, _, _, _, _, _, _, _, _, _, _ => none
 | k + 1, x0, x4, x7, x8, x9, x398000, x398001, x398002, x398003, x398004 => if x9 < 3 then (horologeref16_Parse.j5 k x0 x4 x7 x8 x9 x7 x398000 x398001 x398002 x398003 x398004) else (horologeref16_Parse.j5 k x0 x4 x7 x8 x9 false x398000 x398001 x398002 x398003 x398004)
def horologeref16_Parse.j5 : Nat → ByteArray → Int → Bool → List ByteArray → Int → Bool → Int → Int → Int → Int → Int → Option (Int × Int × Int × Int × Int × Int)
 | 0, _, _, _, _, _, _, _, _, _, _, _ => none
 | k + 1, x0, x4, x7, x8, x9, x67, x398000, x398001, x398002, x398003, x398004 => if x67 = true then (if x9 = 0 then (horologeref16_Parse.j6 k x0 x4 x8 x9 2 x398000 x398001 x398002 x398003 x398004) else (horologeref16_Parse.j6 k x0 x4 x8 x9 1 x398000 x398001 x398002 x398003 x398004)) else (horologeref16_Parse.j8 k x0 x4 x7 x398000 x398001 x398002 x398003 x398004)
def horologeref16_Parse.j6 : Nat → ByteArray → Int → List ByteArray → Int → Int → Int → Int → Int → Int → Int → Option (Int × Int × Int × Int × Int × Int)
 | 0, _, _, _, _, _, _, _, _, _, _ => none
 | k + 1, x0, x4, x8, x9, x10, x398000, x398001, x398002, x398003, x398004 => if 0 ≤ x9 then (if x9 < (x8.length : Int) then ((horologeref16_number.f k (rdOf ByteArray.empty x8 x9) 1 x10).bind fun bt404 => (if x9 = 0 then (horologeref16_Parse.j7 k x0 x4 bt404.2 x8 x9 bt404.1 x398000 bt404.1 x398002 x398003 x398004) else (horologeref16_Parse.j7 k x0 x4 bt404.2 x8 x9 bt404.1 x398000 x398001 x398002 x398003 x398004))) else (none)) else (none)
def horologeref16_Parse.j7 : Nat → ByteArray → Int → Bool → List ByteArray → Int → Int → Int → Int → Int → Int → Int → Option (Int × Int × Int × Int × Int × Int)
 | 0, _, _, _, _, _, _, _, _, _, _, _ => none
 | k + 1, x0, x4, x7, x8, x9, x11, x398000, x398001, x398002, x398003, x398004 => if x9 = 1 then (if x9 = 2 then (horologeref16_Parse.l1 k x0 x4 x7 x8 (wrap64 (x9 + 1)) x398000 x398001 x11 x11 x398004) else (horologeref16_Parse.l1 k x0 x4 x7 x8 (wrap64 (x9 + 1)) x398000 x398001 x11 x398003 x398004)) else (if x9 = 2 then (horologeref16_Parse.l1 k x0 x4 x7 x8 (wrap64 (x9 + 1)) x398000 x398001 x398002 x11 x398004) else (horologeref16_Parse.l1 k x0 x4 x7 x8 (wrap64 (x9 + 1)) x398000 x398001 x398002 x398003 x398004))
def horologeref16_Parse.l0 : Nat → ByteArray → Int → Option (Int × Int × Int × Int × Int × Int)
 | 0, _, _ => none
 | k + 1, x0, x4 => if x4 < (x0.size : Int) then (if 0 ≤ x4 then (if (bt x0 x4) = 47 then (horologeref16_Parse.j1 k x0 x4) else (horologeref16_Parse.l0 k x0 (wrap64 (x4 + 1)))) else (none)) else (horologeref16_Parse.j1 k x0 x4)
end
def horologeref16_Parse.f (k : Nat) (a0 : ByteArray) : Option (Int × Int × Int × Int × Int × Int) := horologeref16_Parse.l0 k a0 0
theorem horologeref16_Parse.mono_l : ∀ k, (∀ y0 y1, LeO (horologeref16_Parse.j1 k y0 y1) (horologeref16_Parse.j1 (k + 1) y0 y1)) ∧ (∀ y0 y1 y2 y3 y4 y5 y6 y7 y8, LeO (horologeref16_Parse.j2 k y0 y1 y2 y3 y4 y5 y6 y7 y8) (horologeref16_Parse.j2 (k + 1) y0 y1 y2 y3 y4 y5 y6 y7 y8)) ∧ (∀ y0 y1 y2 y3 y4 y5 y6 y7, LeO (horologeref16_Parse.j8 k y0 y1 y2 y3 y4 y5 y6 y7) (horologeref16_Parse.j8 (k + 1) y0 y1 y2 y3 y4 y5 y6 y7)) ∧ (∀ y0 y1 y2 y3 y4 y5 y6 y7 y8, LeO (horologeref16_Parse.j3 k y0 y1 y2 y3 y4 y5 y6 y7 y8) (horologeref16_Parse.j3 (k + 1) y0 y1 y2 y3 y4 y5 y6 y7 y8)) ∧ (∀ y0 y1 y2 y3 y4 y5 y6 y7 y8 y9, LeO (horologeref16_Parse.l1 k y0 y1 y2 y3 y4 y5 y6 y7 y8 y9) (horologeref16_Parse.l1 (k + 1) y0 y1 y2 y3 y4 y5 y6 y7 y8 y9)) ∧ (∀ y0 y1 y2 y3 y4 y5 y6 y7 y8 y9 y10, LeO (horologeref16_Parse.j5 k y0 y1 y2 y3 y4 y5 y6 y7 y8 y9 y10) (horologeref16_Parse.j5 (k + 1) y0 y1 y2 y3 y4 y5 y6 y7 y8 y9 y10)) ∧ (∀ y0 y1 y2 y3 y4 y5 y6 y7 y8 y9, LeO (horologeref16_Parse.j6 k y0 y1 y2 y3 y4 y5 y6 y7 y8 y9) (horologeref16_Parse.j6 (k + 1) y0 y1 y2 y3 y4 y5 y6 y7 y8 y9)) ∧ (∀ y0 y1 y2 y3 y4 y5 y6 y7 y8 y9 y10, LeO (horologeref16_Parse.j7 k y0 y1 y2 y3 y4 y5 y6 y7 y8 y9 y10) (horologeref16_Parse.j7 (k + 1) y0 y1 y2 y3 y4 y5 y6 y7 y8 y9 y10)) ∧ (∀ y0 y1, LeO (horologeref16_Parse.l0 k y0 y1) (horologeref16_Parse.l0 (k + 1) y0 y1))
 | 0 => ⟨fun _ _ r h => by simp [horologeref16_Parse.j1] at h, fun _ _ _ _ _ _ _ _ _ r h => by simp [horologeref16_Parse.j2] at h, fun _ _ _ _ _ _ _ _ r h => by simp [horologeref16_Parse.j8] at h, fun _ _ _ _ _ _ _ _ _ r h => by simp [horologeref16_Parse.j3] at h, fun _ _ _ _ _ _ _ _ _ _ r h => by simp [horologeref16_Parse.l1] at h, fun _ _ _ _ _ _ _ _ _ _ _ r h => by simp [horologeref16_Parse.j5] at h, fun _ _ _ _ _ _ _ _ _ _ r h => by simp [horologeref16_Parse.j6] at h, fun _ _ _ _ _ _ _ _ _ _ _ r h => by simp [horologeref16_Parse.j7] at h, fun _ _ r h => by simp [horologeref16_Parse.l0] at h⟩
 | k + 1 => by
  obtain ⟨ih0, ih1, ih2, ih3, ih4, ih5, ih6, ih7, ih8⟩ := horologeref16_Parse.mono_l k
  refine ⟨?_, ?_, ?_, ?_, ?_, ?_, ?_, ?_, ?_⟩
  all_goals intros
  all_goals (first | unfold horologeref16_Parse.j1 | unfold horologeref16_Parse.j2 | unfold horologeref16_Parse.j8 | unfold horologeref16_Parse.j3 | unfold horologeref16_Parse.l1 | unfold horologeref16_Parse.j5 | unfold horologeref16_Parse.j6 | unfold horologeref16_Parse.j7 | unfold horologeref16_Parse.l0)
  repeat' first
  | (with_reducible exact ih0 _ _)
  | (with_reducible exact ih1 _ _ _ _ _ _ _ _ _)
  | (with_reducible exact ih2 _ _ _ _ _ _ _ _)
  | (with_reducible exact ih3 _ _ _ _ _ _ _ _ _)
  | (with_reducible exact ih4 _ _ _ _ _ _ _ _ _ _)
  | (with_reducible exact ih5 _ _ _ _ _ _ _ _ _ _ _)
  | (with_reducible exact ih6 _ _ _ _ _ _ _ _ _ _)
  | (with_reducible exact ih7 _ _ _ _ _ _ _ _ _ _ _)
  | (with_reducible exact ih8 _ _)
  | (with_reducible exact horologeref16_Check.mono _ _ _ _ _ _)
  | (with_reducible exact horologeref16_ParseClock.mono _ _ _)
  | (with_reducible exact horologeref16_number.mono _ _ _ _)
  | (with_reducible exact horologeref16_parts.mono _ _ _)
  | (with_reducible exact LeO.refl _)
  | (with_reducible exact LeO.none _)
  | (with_reducible refine LeO.ite ?_ ?_)
  | (with_reducible refine LeO.bind ?_ (fun _ => ?_))
  | exact ih0 _ _
  | exact ih1 _ _ _ _ _ _ _ _ _
  | exact ih2 _ _ _ _ _ _ _ _
  | exact ih3 _ _ _ _ _ _ _ _ _
  | exact ih4 _ _ _ _ _ _ _ _ _ _
  | exact ih5 _ _ _ _ _ _ _ _ _ _ _
  | exact ih6 _ _ _ _ _ _ _ _ _ _
  | exact ih7 _ _ _ _ _ _ _ _ _ _ _
  | exact ih8 _ _
  | exact horologeref16_Check.mono _ _ _ _ _ _
  | exact horologeref16_ParseClock.mono _ _ _
  | exact horologeref16_number.mono _ _ _ _
  | exact horologeref16_parts.mono _ _ _
  | exact LeO.none _
  | refine LeO.ite ?_ ?_
  | refine LeO.bind ?_ (fun _ => ?_)
theorem horologeref16_Parse.mono : ∀ a0 k, LeO (horologeref16_Parse.f k a0) (horologeref16_Parse.f (k + 1) a0) := by
 intro a0 k
 obtain ⟨ih0, ih1, ih2, ih3, ih4, ih5, ih6, ih7, ih8⟩ := horologeref16_Parse.mono_l k
 unfold horologeref16_Parse.f
 repeat' first
   | (with_reducible exact ih0 _ _)
   | (with_reducible exact ih1 _ _ _ _ _ _ _ _ _)
   | (with_reducible exact ih2 _ _ _ _ _ _ _ _)
   | (with_reducible exact ih3 _ _ _ _ _ _ _ _ _)
   | (with_reducible exact ih4 _ _ _ _ _ _ _ _ _ _)
   | (with_reducible exact ih5 _ _ _ _ _ _ _ _ _ _ _)
   | (with_reducible exact ih6 _ _ _ _ _ _ _ _ _ _)
   | (with_reducible exact ih7 _ _ _ _ _ _ _ _ _ _ _)
   | (with_reducible exact ih8 _ _)
   | (with_reducible exact horologeref16_Check.mono _ _ _ _ _ _)
   | (with_reducible exact horologeref16_ParseClock.mono _ _ _)
   | (with_reducible exact horologeref16_number.mono _ _ _ _)
   | (with_reducible exact horologeref16_parts.mono _ _ _)
   | (with_reducible exact LeO.refl _)
   | (with_reducible exact LeO.none _)
   | (with_reducible refine LeO.ite ?_ ?_)
   | (with_reducible refine LeO.bind ?_ (fun _ => ?_))
   | exact ih0 _ _
   | exact ih1 _ _ _ _ _ _ _ _ _
   | exact ih2 _ _ _ _ _ _ _ _
   | exact ih3 _ _ _ _ _ _ _ _ _
   | exact ih4 _ _ _ _ _ _ _ _ _ _
   | exact ih5 _ _ _ _ _ _ _ _ _ _ _
   | exact ih6 _ _ _ _ _ _ _ _ _ _
   | exact ih7 _ _ _ _ _ _ _ _ _ _ _
   | exact ih8 _ _
   | exact horologeref16_Check.mono _ _ _ _ _ _
   | exact horologeref16_ParseClock.mono _ _ _
   | exact horologeref16_number.mono _ _ _ _
   | exact horologeref16_parts.mono _ _ _
   | exact LeO.none _
   | refine LeO.ite ?_ ?_
   | refine LeO.bind ?_ (fun _ => ?_)
set_option maxHeartbeats 8000000 in
set_option maxRecDepth 100000 in
theorem horologeref16_Parse.calls (k : Nat) (a0 : ByteArray) (r1 : Int) (r2 : Int) (r3 : Int) (r4 : Int) (r5 : Int) (r6 : Int) (w : World) (h : horologeref16_Parse.f k a0 = some (r1, r2, r3, r4, r5, r6)) :
  Calls Try.prog 27 #[.string a0] w fun e w' => e = .returned (.tuple #[.agg #[.int .i64 r1, .int .i64 r2, .int .i64 r3, .int .i64 r4, .int .i64 r5], .int .i64 r6]) ∧ Below w.heap.size w w' := by
 have hu30 := Try.underlying30
 have HB := Aside0.mk (Below.refl w.heap.size w)
 have H : (horologeref16_Parse.l0 k a0 0) = some (r1, r2, r3, r4, r5, r6) := h
 clear h
 have HC2 := Aside0.mk H
 clear H
 go_enter Try.func27, Try.ntmps27
 go_upto_block 0 with (first | ((with_reducible refine gate_dst (N := 2) rfl ?_); refine box_event ?hg (N := 2) ?hd (cs := #[.int .i64 0, .int .i64 0, .int .i64 0, .int .i64 0, .int .i64 0]) (t := 30) ?hr ?_; (case hd => rfl); (case hg => rfl); (case hr => first | (go_simp; done) | (go_simp; rfl)); intro gb396 hg w3 hbox hb; have n0_ := Aside0.mk (below_step (by repeat (first | (with_reducible first | exact HB.out | apply below_alloc | apply pw_below_drewN | apply below_drew1) | exact HB.out)) hb); have n1_ := Aside0.mk (hbox); have n2_ := Aside0.mk ((by rw [hg]; exact (below_size (by repeat (first | (with_reducible first | exact HB.out | apply below_alloc | apply pw_below_drewN | apply below_drew1) | exact HB.out))) : w.heap.size ≤ gb396)); have n3_ := Aside0.mk ((by rw [hg]; exact (below_size (by repeat (first | (with_reducible first | exact HB.out | apply below_alloc | apply pw_below_drewN | apply below_drew1) | exact HB.out))) : w.heap.size ≤ gb396)); clear HB; have HB := n0_; have BK396 := n1_; have GW396 := n2_; have GE396 := n3_; clear n0_ n1_ n2_ n3_; clear hb hbox hg))
 (try simp only [Act.put, List.setIfInBounds_toArray, List.set_cons_zero, List.set_cons_succ])
 go_cut [4] (fun v4 wc => ∃ (kq : Nat) (x4_1 : Int), v4 = .int .i64 x4_1 ∧ Aside0 (horologeref16_Parse.j1 kq a0 x4_1 = some (r1, r2, r3, r4, r5, r6)) ∧ Aside0 (kq ≤ k) ∧ Aside0 (wc.heap[gb396]? = some (.cells #[.int .i64 0, .int .i64 0, .int .i64 0, .int .i64 0, .int .i64 0] 30 (0, 0))) ∧ Aside0 (Below w.heap.size w wc))
 case first =>
  have H := HC2.out
  clear HC2
  have H' := Aside0.mk H
  clear H
  go_wp2
  go_loopg [4] k (fun kq v4 w' => ∃ (x4_1 : Int), v4 = .int .i64 x4_1 ∧ Aside0 (horologeref16_Parse.l0 kq a0 x4_1 = some (r1, r2, r3, r4, r5, r6)) ∧ Aside0 (kq ≤ k) ∧ Aside0 (w'.heap[gb396]? = some (.cells #[.int .i64 0, .int .i64 0, .int .i64 0, .int .i64 0, .int .i64 0] 30 (0, 0))) ∧ Aside0 (Below w.heap.size w w'))
  case atStart => exact ⟨(0), (by first | rfl | (simp; done) | (simp [*]; done)), H', ⟨Nat.le_refl _⟩, ⟨by (with_reducible repeat (first | refine blk_drewN ?_ _ | refine blk_drew ?_ | refine blk_alloc ?_ _)); exact BK396.out⟩, ⟨by repeat (first | (with_reducible first | exact HB.out | apply below_alloc | apply pw_below_drewN | apply below_drew1 | refine below_set ?_ GE396.out) | exact HB.out)⟩⟩
  case round =>
   clear H'
   (try clear c2); (try clear p2)
   obtain ⟨x4_1, rfl, HA, HK1, BK396, HB⟩ := hrel
   cases gk with
   | zero => exact absurd HA.out (by simp [horologeref16_Parse.l0])
   | succ k1 =>
    have H := HA.out
    clear HA
    simp only [horologeref16_Parse.l0] at H
    by_cases c4 : x4_1 < (a0.size : Int)
    ·rw [if_pos c4] at H
     have c4b0 : decide (x4_1 < (a0.size : Int)) = true := decide_eq_true c4
     clear c4
     (first | rw [c4b0] | (simp only [i64_w, i32_w]; rw [c4b0]) | skip)
     by_cases c5 : 0 ≤ x4_1
     ·rw [if_pos c5] at H
      have c5b0 : decide (0 ≤ x4_1) = true := decide_eq_true c5
      clear c5
      by_cases c7 : (bt a0 x4_1) = 47
      ·rw [if_pos c7] at H
       have c7b0 : ((bt a0 x4_1) == 47) = true := beq_iff_eq.mpr c7
       have c7b1 : ((bt a0 x4_1) != 47) = false := bne_eq_false_iff_eq.mpr c7
       clear c7
       have H' := Aside0.mk H
       clear H
       have p6 : 0 ≤ (x4_1 : Int) := of_decide_eq_true (by first | (with_reducible assumption) | assumption)
       have q6 : x4_1 < (a0.size : Int) := of_decide_eq_true (by first | (with_reducible assumption) | assumption)
       have hx6 := bt_at a0 x4_1
       replace p6 := eq_true p6
       replace q6 := eq_true q6
       go_wp2
       go_meet
       case rel => exact ⟨_, (x4_1), (by first | rfl | (simp; done) | (simp [*]; done)), H', ⟨by have := HK1.out; first | omega | exact Nat.le_refl _⟩, ⟨by (with_reducible repeat (first | refine blk_drewN ?_ _ | refine blk_drew ?_ | refine blk_alloc ?_ _)); exact BK396.out⟩, ⟨by repeat (first | (with_reducible first | exact HB.out | apply below_alloc | apply pw_below_drewN | apply below_drew1 | refine below_set ?_ GE396.out) | exact HB.out)⟩⟩
      ·rw [if_neg c7] at H
       have c7b0 : ((bt a0 x4_1) == 47) = false := beq_eq_false_iff_ne.mpr c7
       have c7b1 : ((bt a0 x4_1) != 47) = true := bne_iff_ne.mpr c7
       have H' := Aside0.mk H
       clear H
       have p6 : 0 ≤ (x4_1 : Int) := of_decide_eq_true (by first | (with_reducible assumption) | assumption)
       have q6 : x4_1 < (a0.size : Int) := of_decide_eq_true (by first | (with_reducible assumption) | assumption)
       have hx6 := bt_at a0 x4_1
       replace p6 := eq_true p6
       replace q6 := eq_true q6
       go_wp2
       go_roundg k1
       case measure => have := HK1.out; omega
       case rel => exact ⟨(wrap64 (x4_1 + 1)), (by first | rfl | (simp; done) | (simp [*]; done)), H', ⟨by have := HK1.out; omega⟩, ⟨by (with_reducible repeat (first | refine blk_drewN ?_ _ | refine blk_drew ?_ | refine blk_alloc ?_ _)); exact BK396.out⟩, ⟨by repeat (first | (with_reducible first | exact HB.out | apply below_alloc | apply pw_below_drewN | apply below_drew1 | refine below_set ?_ GE396.out) | exact HB.out)⟩⟩
     ·rw [if_neg c5] at H
      exact absurd H (by simp)
    ·rw [if_neg c4] at H
     have c4b0 : decide (x4_1 < (a0.size : Int)) = false := decide_eq_false c4
     clear c4
     (first | rw [c4b0] | (simp only [i64_w, i32_w]; rw [c4b0]) | skip)
     have H' := Aside0.mk H
     clear H
     go_wp2
     go_meet
     case rel => exact ⟨_, (x4_1), (by first | rfl | (simp; done) | (simp [*]; done)), H', ⟨by have := HK1.out; first | omega | exact Nat.le_refl _⟩, ⟨by (with_reducible repeat (first | refine blk_drewN ?_ _ | refine blk_drew ?_ | refine blk_alloc ?_ _)); exact BK396.out⟩, ⟨by repeat (first | (with_reducible first | exact HB.out | apply below_alloc | apply pw_below_drewN | apply below_drew1 | refine below_set ?_ GE396.out) | exact HB.out)⟩⟩
 case rest =>
  clear HC2
  (try clear c2); (try clear p2); (try clear c4); (try clear c4b0); (try clear c5); (try clear c5b0); (try clear p6); (try clear q6); (try clear hx6); (try clear c7); (try clear c7b0); (try clear c7b1)
  obtain ⟨kq, x4_1, rfl, HA, HJ1, BK396, HB⟩ := hcut
  cases kq with
  | zero => exact absurd HA.out (by simp [horologeref16_Parse.j1])
  | succ kj1 =>
   have H := HA.out
   clear HA
   simp only [horologeref16_Parse.j1] at H
   by_cases c8 : 0 ≤ x4_1
   ·rw [if_pos c8] at H
    have c8b0 := eq_true c8
    have c8b1 : decide (0 ≤ x4_1) = true := decide_eq_true c8
    clear c8
    by_cases c9 : x4_1 ≤ (a0.size : Int)
    ·rw [if_pos c9] at H
     have c9b0 := eq_true c9
     have c9b1 : decide (x4_1 ≤ (a0.size : Int)) = true := decide_eq_true c9
     clear c9
     have HC10 := Aside0.mk H
     clear H
     go_upto_region 7 with (first | ((with_reducible refine gate_dst (N := 6) rfl ?_); refine box_event ?hg (N := 6) ?hd (cs := #[.int .i64 0, .int .i64 0, .int .i64 0, .int .i64 0, .int .i64 0]) (t := 30) ?hr ?_; (case hd => rfl); (case hg => rfl); (case hr => first | (go_simp; done) | (go_simp; rfl)); intro gb397 hg w11 hbox hb; have n0_ := Aside0.mk (blk_below (g := gb396) (o := .cells #[.int .i64 0, .int .i64 0, .int .i64 0, .int .i64 0, .int .i64 0] 30 (0, 0)) (by (with_reducible repeat (first | refine blk_drewN ?_ _ | refine blk_drew ?_ | refine blk_alloc ?_ _)); exact BK396.out) hb); have n1_ := Aside0.mk (below_step (by repeat (first | (with_reducible first | exact HB.out | apply below_alloc | apply pw_below_drewN | apply below_drew1 | refine below_set ?_ GE396.out) | exact HB.out)) hb); have n2_ := Aside0.mk (hbox); have n3_ := Aside0.mk ((by rw [hg]; exact (below_size (by repeat (first | (with_reducible first | exact HB.out | apply below_alloc | apply pw_below_drewN | apply below_drew1 | refine below_set ?_ GE396.out) | exact HB.out))) : w.heap.size ≤ gb397)); have n4_ := Aside0.mk ((by rw [hg]; exact (below_size (by repeat (first | (with_reducible first | exact HB.out | apply below_alloc | apply pw_below_drewN | apply below_drew1 | refine below_set ?_ GE396.out) | exact HB.out))) : w.heap.size ≤ gb397)); have n5_ := Aside0.mk ((by rw [hg]; exact Nat.ne_of_lt (blk_lt (g := gb396) (o := .cells #[.int .i64 0, .int .i64 0, .int .i64 0, .int .i64 0, .int .i64 0] 30 (0, 0)) (by (with_reducible repeat (first | refine blk_drewN ?_ _ | refine blk_drew ?_ | refine blk_alloc ?_ _)); exact BK396.out)) : gb396 ≠ gb397)); have n6_ := Aside0.mk ((by rw [hg]; exact Nat.ne_of_gt (blk_lt (g := gb396) (o := .cells #[.int .i64 0, .int .i64 0, .int .i64 0, .int .i64 0, .int .i64 0] 30 (0, 0)) (by (with_reducible repeat (first | refine blk_drewN ?_ _ | refine blk_drew ?_ | refine blk_alloc ?_ _)); exact BK396.out)) : gb397 ≠ gb396)); clear BK396; clear HB; have BK396 := n0_; have HB := n1_; have BK397 := n2_; have GW397 := n3_; have GE397 := n4_; have NB396_397 := n5_; have NB397_396 := n6_; clear n0_ n1_ n2_ n3_ n4_ n5_ n6_; clear hb hbox hg; have hnb12 := NB397_396.out; have hnc12 := NB396_397.out; have hcz13_0 : w11.cell? ⟨gb397, 0, none⟩ = some (.int .i64 0) := (blk_cell BK397.out 0).trans rfl; have hcz13_1 : w11.cell? ⟨gb397, 1, none⟩ = some (.int .i64 0) := (blk_cell BK397.out 1).trans rfl; have hcz13_2 : w11.cell? ⟨gb397, 2, none⟩ = some (.int .i64 0) := (blk_cell BK397.out 2).trans rfl; have hcz13_3 : w11.cell? ⟨gb397, 3, none⟩ = some (.int .i64 0) := (blk_cell BK397.out 3).trans rfl; have hcz13_4 : w11.cell? ⟨gb397, 4, none⟩ = some (.int .i64 0) := (blk_cell BK397.out 4).trans rfl; have hfz13_0 := blk_frozen BK397.out 0; have hfz13_1 := blk_frozen BK397.out 1; have hfz13_2 := blk_frozen BK397.out 2; have hfz13_3 := blk_frozen BK397.out 3; have hfz13_4 := blk_frozen BK397.out 4))
     (try simp only [Act.put, List.setIfInBounds_toArray, List.set_cons_zero, List.set_cons_succ])
     generalize hcu_ : a0.extract 0 (x4_1 : Int).toNat = cu_ at HC10 ⊢
     go_cut [39] (fun v39 wc => ∃ (kq : Nat) (x39_9 : Bool), v39 = .bool x39_9 ∧ Aside0 (horologeref16_Parse.j2 kq a0 x4_1 cu_ x39_9 2 0 0 0 7200 = some (r1, r2, r3, r4, r5, r6)) ∧ Aside0 (kq ≤ kj1) ∧ Aside0 (wc.heap[gb396]? = some (.cells #[.int .i64 0, .int .i64 0, .int .i64 0, .int .i64 0, .int .i64 0] 30 (0, 0))) ∧ Aside0 (wc.heap[gb397]? = some (.cells #[.int .i64 2, .int .i64 0, .int .i64 0, .int .i64 0, .int .i64 7200] 30 (0, 0))) ∧ Aside0 (Below w.heap.size w wc))
     case first =>
      have H := HC10.out
      clear HC10
      by_cases c14 : (cu_.size : Int) > 0
      ·rw [if_pos c14] at H
       have c14b0 : decide (0 < (cu_.size : Int)) = true := decide_eq_true c14
       have c14b1 : decide (0 < cu_.size) = true := decide_eq_true (by omega)
       (try (have c14b2 : decide (0 < max x4_1 0) = true := decide_eq_true (by have hq_ : x4_1 ≤ (a0.size : Int) := of_decide_eq_true (by assumption); have hz_ := c14; simp only [ByteArray.size_extract] at hz_; omega)))
       clear c14
       (first | rw [c14b0] | (simp only [i64_w, i32_w]; rw [c14b0]) | skip)
       by_cases c15 : 0 < (cu_.size : Int)
       ·rw [if_pos c15] at H
        have c15b0 : decide (0 < (cu_.size : Int)) = true := decide_eq_true c15
        have c15b1 : decide (0 < cu_.size) = true := decide_eq_true (by omega)
        clear c15
        have H' := Aside0.mk H
        clear H
        have p16 : 0 ≤ (0 : Int) := (by omega)
        have q16 : 0 < cu_.size := (by have : (0 : Int) < (cu_.size : Int) := of_decide_eq_true (by first | (with_reducible assumption) | assumption); omega)
        have hx16 : ∀ h : 0 < cu_.size, ((cu_[0]'h).toNat : Int) = bt cu_ 0 := bt_at cu_ 0
        clear p16
        have qi16 : (0 < (cu_.size : Int)) = True := eq_true (of_decide_eq_true (by first | (with_reducible assumption) | assumption))
        replace q16 := eq_true q16
        go_wp2
        go_meet
        case rel => exact ⟨_, (((bt cu_ 0) == 74)), (by first | rfl | (simp; done) | (simp [*]; done)), H', ⟨by have := HJ1.out; first | omega | exact Nat.le_refl _⟩, ⟨by (with_reducible repeat (first | refine blk_drewN ?_ _ | refine blk_drew ?_ | refine blk_alloc ?_ _)); refine blk_far ?_ NB396_397.out _; (with_reducible repeat (first | refine blk_drewN ?_ _ | refine blk_drew ?_ | refine blk_alloc ?_ _)); refine blk_far ?_ NB396_397.out _; (with_reducible repeat (first | refine blk_drewN ?_ _ | refine blk_drew ?_ | refine blk_alloc ?_ _)); refine blk_far ?_ NB396_397.out _; (with_reducible repeat (first | refine blk_drewN ?_ _ | refine blk_drew ?_ | refine blk_alloc ?_ _)); refine blk_far ?_ NB396_397.out _; (with_reducible repeat (first | refine blk_drewN ?_ _ | refine blk_drew ?_ | refine blk_alloc ?_ _)); refine blk_far ?_ NB396_397.out _; (with_reducible repeat (first | refine blk_drewN ?_ _ | refine blk_drew ?_ | refine blk_alloc ?_ _)); exact BK396.out⟩, ⟨by (with_reducible repeat (first | refine blk_drewN ?_ _ | refine blk_drew ?_ | refine blk_alloc ?_ _)); refine blk_put (cs := #[.int .i64 2, .int .i64 0, .int .i64 0, .int .i64 0, .int .i64 0]) ?_ 4 _ rfl; (with_reducible repeat (first | refine blk_drewN ?_ _ | refine blk_drew ?_ | refine blk_alloc ?_ _)); refine blk_put (cs := #[.int .i64 2, .int .i64 0, .int .i64 0, .int .i64 0, .int .i64 0]) ?_ 3 _ rfl; (with_reducible repeat (first | refine blk_drewN ?_ _ | refine blk_drew ?_ | refine blk_alloc ?_ _)); refine blk_put (cs := #[.int .i64 2, .int .i64 0, .int .i64 0, .int .i64 0, .int .i64 0]) ?_ 2 _ rfl; (with_reducible repeat (first | refine blk_drewN ?_ _ | refine blk_drew ?_ | refine blk_alloc ?_ _)); refine blk_put (cs := #[.int .i64 2, .int .i64 0, .int .i64 0, .int .i64 0, .int .i64 0]) ?_ 1 _ rfl; (with_reducible repeat (first | refine blk_drewN ?_ _ | refine blk_drew ?_ | refine blk_alloc ?_ _)); refine blk_put (cs := #[.int .i64 0, .int .i64 0, .int .i64 0, .int .i64 0, .int .i64 0]) ?_ 0 _ rfl; (with_reducible repeat (first | refine blk_drewN ?_ _ | refine blk_drew ?_ | refine blk_alloc ?_ _)); exact BK397.out⟩, ⟨by repeat (first | (with_reducible first | exact HB.out | apply below_alloc | apply pw_below_drewN | apply below_drew1 | refine below_set ?_ GE396.out | refine below_set ?_ GE397.out) | exact HB.out)⟩⟩
       ·rw [if_neg c15] at H
        exact absurd H (by simp)
      ·rw [if_neg c14] at H
       have c14b0 : decide (0 < (cu_.size : Int)) = false := decide_eq_false c14
       have c14b1 : decide (0 < cu_.size) = false := decide_eq_false (by omega)
       (try (have c14b2 : decide (0 < max x4_1 0) = false := decide_eq_false (by have hq_ : x4_1 ≤ (a0.size : Int) := of_decide_eq_true (by assumption); have hz_ := c14; simp only [ByteArray.size_extract] at hz_; omega)))
       clear c14
       (first | rw [c14b0] | (simp only [i64_w, i32_w]; rw [c14b0]) | skip)
       have H' := Aside0.mk H
       clear H
       go_wp2
       go_meet
       case rel => exact ⟨_, (false), (by first | rfl | (simp; done) | (simp [*]; done)), H', ⟨by have := HJ1.out; first | omega | exact Nat.le_refl _⟩, ⟨by (with_reducible repeat (first | refine blk_drewN ?_ _ | refine blk_drew ?_ | refine blk_alloc ?_ _)); refine blk_far ?_ NB396_397.out _; (with_reducible repeat (first | refine blk_drewN ?_ _ | refine blk_drew ?_ | refine blk_alloc ?_ _)); refine blk_far ?_ NB396_397.out _; (with_reducible repeat (first | refine blk_drewN ?_ _ | refine blk_drew ?_ | refine blk_alloc ?_ _)); refine blk_far ?_ NB396_397.out _; (with_reducible repeat (first | refine blk_drewN ?_ _ | refine blk_drew ?_ | refine blk_alloc ?_ _)); refine blk_far ?_ NB396_397.out _; (with_reducible repeat (first | refine blk_drewN ?_ _ | refine blk_drew ?_ | refine blk_alloc ?_ _)); refine blk_far ?_ NB396_397.out _; (with_reducible repeat (first | refine blk_drewN ?_ _ | refine blk_drew ?_ | refine blk_alloc ?_ _)); exact BK396.out⟩, ⟨by (with_reducible repeat (first | refine blk_drewN ?_ _ | refine blk_drew ?_ | refine blk_alloc ?_ _)); refine blk_put (cs := #[.int .i64 2, .int .i64 0, .int .i64 0, .int .i64 0, .int .i64 0]) ?_ 4 _ rfl; (with_reducible repeat (first | refine blk_drewN ?_ _ | refine blk_drew ?_ | refine blk_alloc ?_ _)); refine blk_put (cs := #[.int .i64 2, .int .i64 0, .int .i64 0, .int .i64 0, .int .i64 0]) ?_ 3 _ rfl; (with_reducible repeat (first | refine blk_drewN ?_ _ | refine blk_drew ?_ | refine blk_alloc ?_ _)); refine blk_put (cs := #[.int .i64 2, .int .i64 0, .int .i64 0, .int .i64 0, .int .i64 0]) ?_ 2 _ rfl; (with_reducible repeat (first | refine blk_drewN ?_ _ | refine blk_drew ?_ | refine blk_alloc ?_ _)); refine blk_put (cs := #[.int .i64 2, .int .i64 0, .int .i64 0, .int .i64 0, .int .i64 0]) ?_ 1 _ rfl; (with_reducible repeat (first | refine blk_drewN ?_ _ | refine blk_drew ?_ | refine blk_alloc ?_ _)); refine blk_put (cs := #[.int .i64 0, .int .i64 0, .int .i64 0, .int .i64 0, .int .i64 0]) ?_ 0 _ rfl; (with_reducible repeat (first | refine blk_drewN ?_ _ | refine blk_drew ?_ | refine blk_alloc ?_ _)); exact BK397.out⟩, ⟨by repeat (first | (with_reducible first | exact HB.out | apply below_alloc | apply pw_below_drewN | apply below_drew1 | refine below_set ?_ GE396.out | refine below_set ?_ GE397.out) | exact HB.out)⟩⟩
     case rest =>
      clear HC10
      (try clear c1); (try clear p1); (try clear q1); (try clear hx1); (try clear qi1); (try clear c2); (try clear p2); (try clear c4); (try clear c4b0); (try clear c5); (try clear c5b0); (try clear p6); (try clear q6); (try clear hx6); (try clear c7); (try clear c7b0); (try clear c7b1); (try clear c8); (try clear c8b0); (try clear c8b1); (try clear c9); (try clear c9b0); (try clear c9b1); (try clear c12); (try clear c14); (try clear c14b0); (try clear c14b1); (try clear c14b2); (try clear c15); (try clear c15b0); (try clear c15b1); (try clear p16); (try clear q16); (try clear hx16); (try clear qi16); (try clear hcz13_0); (try clear hcz13_1); (try clear hcz13_2); (try clear hcz13_3); (try clear hcz13_4); (try clear hfz13_0); (try clear hfz13_1); (try clear hfz13_2); (try clear hfz13_3); (try clear hfz13_4)
      obtain ⟨kq, x39_9, rfl, HA, HJ9, BK396, BK397, HB⟩ := hcut
      cases kq with
      | zero => exact absurd HA.out (by simp [horologeref16_Parse.j2])
      | succ kj9 =>
       have H := HA.out
       clear HA
       simp only [horologeref16_Parse.j2] at H
       have HC17 := Aside0.mk H
       clear H
       go_upto_if 39 with (fail)
       go_cut [7] (fun v7 wc => ∃ (kq : Nat) (x7_16 : Bool) (x398000_16 : Int) (x398001_16 : Int) (x398002_16 : Int) (x398003_16 : Int), v7 = .bool x7_16 ∧ Aside0 (horologeref16_Parse.j8 kq a0 x4_1 x7_16 x398000_16 x398001_16 x398002_16 x398003_16 7200 = some (r1, r2, r3, r4, r5, r6)) ∧ Aside0 (kq ≤ kj9) ∧ Aside0 (wc.heap[gb396]? = some (.cells #[.int .i64 0, .int .i64 0, .int .i64 0, .int .i64 0, .int .i64 0] 30 (0, 0))) ∧ Aside0 (wc.heap[gb397]? = some (.cells #[.int .i64 x398000_16, .int .i64 x398001_16, .int .i64 x398002_16, .int .i64 x398003_16, .int .i64 7200] 30 (0, 0))) ∧ Aside0 (Below w.heap.size w wc))
       case first =>
        have H := HC17.out
        clear HC17
        by_cases c18 : x39_9 = true
        ·subst c18
         have H1 : (if 1 ≤ (cu_.size : Int) then ((horologeref16_number.f kj9 (cu_.extract 1 cu_.size) 1 3).bind fun bt398 => (horologeref16_Parse.j8 kj9 a0 x4_1 bt398.2 1 0 0 bt398.1 7200)) else (none)) = some (r1, r2, r3, r4, r5, r6) := by rw [if_pos rfl] at H; exact H
         clear H
         have H := H1
         clear H1
         by_cases c19 : 1 ≤ (cu_.size : Int)
         ·rw [if_pos c19] at H
          have c19b0 := eq_true c19
          have c19b1 : decide (1 ≤ (cu_.size : Int)) = true := decide_eq_true c19
          clear c19
          replace H := Option.bind_eq_some_iff.mp H
          obtain ⟨⟨t398, t399⟩, A200, H⟩ := H
          replace H : (horologeref16_Parse.j8 kj9 a0 x4_1 t399 1 0 0 t398 7200) = some (r1, r2, r3, r4, r5, r6) := H
          have A20 := Aside0.mk A200
          clear A200
          have H' := Aside0.mk H
          clear H
          have hnb21 := NB397_396.out
          have hnc21 := NB396_397.out
          have hcz22_0 : wc.cell? ⟨gb397, 0, none⟩ = some (.int .i64 2) := (blk_cell BK397.out 0).trans rfl
          have hcz22_1 : wc.cell? ⟨gb397, 1, none⟩ = some (.int .i64 0) := (blk_cell BK397.out 1).trans rfl
          have hcz22_2 : wc.cell? ⟨gb397, 2, none⟩ = some (.int .i64 0) := (blk_cell BK397.out 2).trans rfl
          have hcz22_3 : wc.cell? ⟨gb397, 3, none⟩ = some (.int .i64 0) := (blk_cell BK397.out 3).trans rfl
          have hcz22_4 : wc.cell? ⟨gb397, 4, none⟩ = some (.int .i64 7200) := (blk_cell BK397.out 4).trans rfl
          have hfz22_0 := blk_frozen BK397.out 0
          have hfz22_1 := blk_frozen BK397.out 1
          have hfz22_2 := blk_frozen BK397.out 2
          have hfz22_3 := blk_frozen BK397.out 3
          have hfz22_4 := blk_frozen BK397.out 4
          go_wp2_with (first | ((with_reducible refine gate_callee (f := 47) rfl ?_); refine goesL_ (some 44) rfl rfl Try.func47 (by kernel_rfl) rfl #[.string (cu_.extract 1 cu_.size), .int .i64 1, .int .i64 3] rfl (by (try simp only [List.map_toArray, List.map_cons, List.map_nil]); first | done | rfl | (simp only [List.length_drop, List.length_take]; rfl) | (refine congrArg (fun z_ => #[Value.int IntKind.i64 z_]) (?_ : Go.RowKit.wrap64 (IntKind.u8.wrap _) = _); rw [IntKind.wrap_u8]; unfold Go.RowKit.wrap64; omega)) ?_; (with_reducible refine (horologeref16_number.calls kj9 (cu_.extract 1 cu_.size) 1 3 t398 t399 _ A20.out).mono ?_); rintro e w' ⟨rfl, ⟨nd, rfl⟩⟩; refine ⟨_, rfl, ?_⟩))
          go_meet
          case rel => exact ⟨_, (t399), (1), (0), (0), (t398), (by first | rfl | (simp; done) | (simp [*]; done)), H', ⟨by have := HJ1.out; have := HJ9.out; first | omega | exact Nat.le_refl _⟩, ⟨by (with_reducible repeat (first | refine blk_drewN ?_ _ | refine blk_drew ?_ | refine blk_alloc ?_ _)); refine blk_far ?_ NB396_397.out _; (with_reducible repeat (first | refine blk_drewN ?_ _ | refine blk_drew ?_ | refine blk_alloc ?_ _)); refine blk_far ?_ NB396_397.out _; (with_reducible repeat (first | refine blk_drewN ?_ _ | refine blk_drew ?_ | refine blk_alloc ?_ _)); exact BK396.out⟩, ⟨by (with_reducible repeat (first | refine blk_drewN ?_ _ | refine blk_drew ?_ | refine blk_alloc ?_ _)); refine blk_put (cs := #[.int .i64 1, .int .i64 0, .int .i64 0, .int .i64 0, .int .i64 7200]) ?_ 3 _ rfl; (with_reducible repeat (first | refine blk_drewN ?_ _ | refine blk_drew ?_ | refine blk_alloc ?_ _)); refine blk_put (cs := #[.int .i64 2, .int .i64 0, .int .i64 0, .int .i64 0, .int .i64 7200]) ?_ 0 _ rfl; (with_reducible repeat (first | refine blk_drewN ?_ _ | refine blk_drew ?_ | refine blk_alloc ?_ _)); exact BK397.out⟩, ⟨by repeat (first | (with_reducible first | exact HB.out | apply below_alloc | apply pw_below_drewN | apply below_drew1 | refine below_set ?_ GE396.out | refine below_set ?_ GE397.out) | exact HB.out)⟩⟩
         ·rw [if_neg c19] at H
          exact absurd H (by simp)
        ·replace c18 := Bool.eq_false_iff.mpr c18
         subst c18
         have H1 : (if (cu_.size : Int) > 0 then (if 0 < (cu_.size : Int) then (horologeref16_Parse.j3 kj9 a0 x4_1 cu_ ((bt cu_ 0) == 77) 2 0 0 0 7200) else (none)) else (horologeref16_Parse.j3 kj9 a0 x4_1 cu_ false 2 0 0 0 7200)) = some (r1, r2, r3, r4, r5, r6) := by rw [if_neg (show ¬ (false = true) by decide)] at H; exact H
         clear H
         have H := H1
         clear H1
         have HC23 := Aside0.mk H
         clear H
         go_upto_region 10 with (fail)
         go_cut [55] (fun v55 wc => ∃ (kq : Nat) (x55_22 : Bool), v55 = .bool x55_22 ∧ Aside0 (horologeref16_Parse.j3 kq a0 x4_1 cu_ x55_22 2 0 0 0 7200 = some (r1, r2, r3, r4, r5, r6)) ∧ Aside0 (kq ≤ kj9) ∧ Aside0 (wc.heap[gb396]? = some (.cells #[.int .i64 0, .int .i64 0, .int .i64 0, .int .i64 0, .int .i64 0] 30 (0, 0))) ∧ Aside0 (wc.heap[gb397]? = some (.cells #[.int .i64 2, .int .i64 0, .int .i64 0, .int .i64 0, .int .i64 7200] 30 (0, 0))) ∧ Aside0 (Below w.heap.size w wc))
         case first =>
          have H := HC23.out
          clear HC23
          by_cases c24 : (cu_.size : Int) > 0
          ·rw [if_pos c24] at H
           have c24b0 : decide (0 < (cu_.size : Int)) = true := decide_eq_true c24
           have c24b1 : decide (0 < cu_.size) = true := decide_eq_true (by omega)
           (try (have c24b2 : decide (0 < max x4_1 0) = true := decide_eq_true (by have hq_ : x4_1 ≤ (a0.size : Int) := of_decide_eq_true (by assumption); have hz_ := c24; simp only [ByteArray.size_extract] at hz_; omega)))
           clear c24
           (first | rw [c24b0] | (simp only [i64_w, i32_w]; rw [c24b0]) | skip)
           by_cases c25 : 0 < (cu_.size : Int)
           ·rw [if_pos c25] at H
            have c25b0 : decide (0 < (cu_.size : Int)) = true := decide_eq_true c25
            have c25b1 : decide (0 < cu_.size) = true := decide_eq_true (by omega)
            clear c25
            have H' := Aside0.mk H
            clear H
            have p26 : 0 ≤ (0 : Int) := (by omega)
            have q26 : 0 < cu_.size := (by have : (0 : Int) < (cu_.size : Int) := of_decide_eq_true (by first | (with_reducible assumption) | assumption); omega)
            have hx26 : ∀ h : 0 < cu_.size, ((cu_[0]'h).toNat : Int) = bt cu_ 0 := bt_at cu_ 0
            clear p26
            have qi26 : (0 < (cu_.size : Int)) = True := eq_true (of_decide_eq_true (by first | (with_reducible assumption) | assumption))
            replace q26 := eq_true q26
            go_wp2
            go_meet
            case rel => exact ⟨_, (((bt cu_ 0) == 77)), (by first | rfl | (simp; done) | (simp [*]; done)), H', ⟨by have := HJ1.out; have := HJ9.out; first | omega | exact Nat.le_refl _⟩, ⟨by (with_reducible repeat (first | refine blk_drewN ?_ _ | refine blk_drew ?_ | refine blk_alloc ?_ _)); exact BK396.out⟩, ⟨by (with_reducible repeat (first | refine blk_drewN ?_ _ | refine blk_drew ?_ | refine blk_alloc ?_ _)); exact BK397.out⟩, ⟨by repeat (first | (with_reducible first | exact HB.out | apply below_alloc | apply pw_below_drewN | apply below_drew1 | refine below_set ?_ GE396.out | refine below_set ?_ GE397.out) | exact HB.out)⟩⟩
           ·rw [if_neg c25] at H
            exact absurd H (by simp)
          ·rw [if_neg c24] at H
           have c24b0 : decide (0 < (cu_.size : Int)) = false := decide_eq_false c24
           have c24b1 : decide (0 < cu_.size) = false := decide_eq_false (by omega)
           (try (have c24b2 : decide (0 < max x4_1 0) = false := decide_eq_false (by have hq_ : x4_1 ≤ (a0.size : Int) := of_decide_eq_true (by assumption); have hz_ := c24; simp only [ByteArray.size_extract] at hz_; omega)))
           clear c24
           (first | rw [c24b0] | (simp only [i64_w, i32_w]; rw [c24b0]) | skip)
           have H' := Aside0.mk H
           clear H
           go_wp2
           go_meet
           case rel => exact ⟨_, (false), (by first | rfl | (simp; done) | (simp [*]; done)), H', ⟨by have := HJ1.out; have := HJ9.out; first | omega | exact Nat.le_refl _⟩, ⟨by (with_reducible repeat (first | refine blk_drewN ?_ _ | refine blk_drew ?_ | refine blk_alloc ?_ _)); exact BK396.out⟩, ⟨by (with_reducible repeat (first | refine blk_drewN ?_ _ | refine blk_drew ?_ | refine blk_alloc ?_ _)); exact BK397.out⟩, ⟨by repeat (first | (with_reducible first | exact HB.out | apply below_alloc | apply pw_below_drewN | apply below_drew1 | refine below_set ?_ GE396.out | refine below_set ?_ GE397.out) | exact HB.out)⟩⟩
         case rest =>
          clear HC23
          (try clear c1); (try clear p1); (try clear q1); (try clear hx1); (try clear qi1); (try clear c2); (try clear p2); (try clear q2); (try clear hx2); (try clear qi2); (try clear c4); (try clear c4b0); (try clear c5); (try clear c5b0); (try clear p6); (try clear q6); (try clear hx6); (try clear c7); (try clear c7b0); (try clear c7b1); (try clear c8); (try clear c8b0); (try clear c8b1); (try clear c9); (try clear c9b0); (try clear c9b1); (try clear c12); (try clear c14); (try clear c14b0); (try clear c14b1); (try clear c14b2); (try clear c15); (try clear c15b0); (try clear c15b1); (try clear p16); (try clear q16); (try clear hx16); (try clear qi16); (try clear c18); (try clear c19); (try clear c19b0); (try clear c19b1); (try clear c21); (try clear c24); (try clear c24b0); (try clear c24b1); (try clear c24b2); (try clear c25); (try clear c25b0); (try clear c25b1); (try clear p26); (try clear q26); (try clear hx26); (try clear qi26); (try clear hcz13_0); (try clear hcz13_1); (try clear hcz13_2); (try clear hcz13_3); (try clear hcz13_4); (try clear hcz22_0); (try clear hcz22_1); (try clear hcz22_2); (try clear hcz22_3); (try clear hcz22_4); (try clear hfz13_0); (try clear hfz13_1); (try clear hfz13_2); (try clear hfz13_3); (try clear hfz13_4); (try clear hfz22_0); (try clear hfz22_1); (try clear hfz22_2); (try clear hfz22_3); (try clear hfz22_4)
          obtain ⟨kq, x55_22, rfl, HA, HJ22, BK396, BK397, HB⟩ := hcut
          cases kq with
          | zero => exact absurd HA.out (by simp [horologeref16_Parse.j3])
          | succ kj22 =>
           have H := HA.out
           clear HA
           simp only [horologeref16_Parse.j3] at H
           by_cases c27 : x55_22 = true
           ·subst c27
            have H1 : (if 1 ≤ (cu_.size : Int) then ((horologeref16_parts.f kj22 (cu_.extract 1 cu_.size) 46).bind fun t400 => (horologeref16_Parse.l1 kj22 a0 x4_1 ((t400.length : Int) == 3) t400 0 3 0 0 0 7200)) else (none)) = some (r1, r2, r3, r4, r5, r6) := by rw [if_pos rfl] at H; exact H
            clear H
            have H := H1
            clear H1
            by_cases c28 : 1 ≤ (cu_.size : Int)
            ·rw [if_pos c28] at H
             have c28b0 := eq_true c28
             have c28b1 : decide (1 ≤ (cu_.size : Int)) = true := decide_eq_true c28
             clear c28
             replace H := Option.bind_eq_some_iff.mp H
             obtain ⟨t400, A290, H⟩ := H
             replace H : (horologeref16_Parse.l1 kj22 a0 x4_1 ((t400.length : Int) == 3) t400 0 3 0 0 0 7200) = some (r1, r2, r3, r4, r5, r6) := H
             have A29 := Aside0.mk A290
             clear A290
             have H' := Aside0.mk H
             clear H
             have hnb30 := NB397_396.out
             have hnc30 := NB396_397.out
             have hcz31_0 : wc.cell? ⟨gb397, 0, none⟩ = some (.int .i64 2) := (blk_cell BK397.out 0).trans rfl
             have hcz31_1 : wc.cell? ⟨gb397, 1, none⟩ = some (.int .i64 0) := (blk_cell BK397.out 1).trans rfl
             have hcz31_2 : wc.cell? ⟨gb397, 2, none⟩ = some (.int .i64 0) := (blk_cell BK397.out 2).trans rfl
             have hcz31_3 : wc.cell? ⟨gb397, 3, none⟩ = some (.int .i64 0) := (blk_cell BK397.out 3).trans rfl
             have hcz31_4 : wc.cell? ⟨gb397, 4, none⟩ = some (.int .i64 7200) := (blk_cell BK397.out 4).trans rfl
             have hfz31_0 := blk_frozen BK397.out 0
             have hfz31_1 := blk_frozen BK397.out 1
             have hfz31_2 := blk_frozen BK397.out 2
             have hfz31_3 := blk_frozen BK397.out 3
             have hfz31_4 := blk_frozen BK397.out 4
             go_wp2_with (first | ((with_reducible refine gate_callee (f := 46) rfl ?_); refine goesL_ (some 59) rfl rfl Try.func46 (by kernel_rfl) rfl #[.string (cu_.extract 1 cu_.size), .int .u8 46] rfl (by (try simp only [List.map_toArray, List.map_cons, List.map_nil]); first | done | rfl | (simp only [List.length_drop, List.length_take]; rfl) | (refine congrArg (fun z_ => #[Value.int IntKind.i64 z_]) (?_ : Go.RowKit.wrap64 (IntKind.u8.wrap _) = _); rw [IntKind.wrap_u8]; unfold Go.RowKit.wrap64; omega)) ?_; (with_reducible refine (horologeref16_parts.calls kj22 (cu_.extract 1 cu_.size) 46 t400 _ A29.out).mono ?_); rintro e w32 ⟨v401, rfl, ho0, hb⟩; refine ⟨_, rfl, ?_⟩; have n0_ := Aside0.mk (Kd.R_lower ho0 (below_size (by repeat (first | (with_reducible first | exact HB.out | apply below_alloc | apply pw_below_drewN | apply below_drew1 | refine below_set ?_ GE396.out | refine below_set ?_ GE397.out) | exact HB.out)))); have n1_ := Aside0.mk (blk_below (g := gb396) (o := .cells #[.int .i64 0, .int .i64 0, .int .i64 0, .int .i64 0, .int .i64 0] 30 (0, 0)) (by (with_reducible repeat (first | refine blk_drewN ?_ _ | refine blk_drew ?_ | refine blk_alloc ?_ _)); refine blk_far ?_ NB396_397.out _; (with_reducible repeat (first | refine blk_drewN ?_ _ | refine blk_drew ?_ | refine blk_alloc ?_ _)); exact BK396.out) hb); have n2_ := Aside0.mk (blk_below (g := gb397) (o := .cells #[.int .i64 3, .int .i64 0, .int .i64 0, .int .i64 0, .int .i64 7200] 30 (0, 0)) (by (with_reducible repeat (first | refine blk_drewN ?_ _ | refine blk_drew ?_ | refine blk_alloc ?_ _)); refine blk_put (cs := #[.int .i64 2, .int .i64 0, .int .i64 0, .int .i64 0, .int .i64 7200]) ?_ 0 _ rfl; (with_reducible repeat (first | refine blk_drewN ?_ _ | refine blk_drew ?_ | refine blk_alloc ?_ _)); exact BK397.out) hb); have n3_ := Aside0.mk (below_step (by repeat (first | (with_reducible first | exact HB.out | apply below_alloc | apply pw_below_drewN | apply below_drew1 | refine below_set ?_ GE396.out | refine below_set ?_ GE397.out) | exact HB.out)) hb); clear BK396; clear BK397; clear HB; have HO402 := n0_; have BK396 := n1_; have BK397 := n2_; have HB := n3_; clear n0_ n1_ n2_ n3_; (try clear hb); (try clear hb2); (try clear hk); (try clear hi); (try clear ho0); obtain ⟨Ao33, co33, eo33⟩ := Kd.R_slice HO402.out; subst eo33))
             go_loopg [7, 9] kj22 (fun kq v7 v9 w' => ∃ (x7_4 : Bool) (x9_4 : Int) (x398001_4 : Int) (x398002_4 : Int) (x398003_4 : Int), v7 = .bool x7_4 ∧ v9 = .int .i64 x9_4 ∧ Aside0 (horologeref16_Parse.l1 kq a0 x4_1 x7_4 t400 x9_4 3 x398001_4 x398002_4 x398003_4 7200 = some (r1, r2, r3, r4, r5, r6)) ∧ Aside0 (kq ≤ kj22) ∧ Aside0 (Kd.R Kd.string 9 w' w.heap.size (fun _ => True) (.slice Ao33 t400.length co33) t400) ∧ Aside0 (w'.heap[gb396]? = some (.cells #[.int .i64 0, .int .i64 0, .int .i64 0, .int .i64 0, .int .i64 0] 30 (0, 0))) ∧ Aside0 (w'.heap[gb397]? = some (.cells #[.int .i64 3, .int .i64 x398001_4, .int .i64 x398002_4, .int .i64 x398003_4, .int .i64 7200] 30 (0, 0))) ∧ Aside0 (Below w.heap.size w w'))
             case atStart => exact ⟨(((t400.length : Int) == 3)), (0), (0), (0), (0), (by first | rfl | (simp; done) | (simp [*]; done)), (by first | rfl | (simp; done) | (simp [*]; done)), H', ⟨Nat.le_refl _⟩, ⟨by (with_reducible repeat (first | apply Kd.R_alloc | apply Kd.R_drewN | apply Kd.R_drew)); exact HO402.out⟩, ⟨by (with_reducible repeat (first | refine blk_drewN ?_ _ | refine blk_drew ?_ | refine blk_alloc ?_ _)); exact BK396.out⟩, ⟨by (with_reducible repeat (first | refine blk_drewN ?_ _ | refine blk_drew ?_ | refine blk_alloc ?_ _)); exact BK397.out⟩, ⟨by repeat (first | (with_reducible first | exact HB.out | apply below_alloc | apply pw_below_drewN | apply below_drew1 | refine below_set ?_ GE396.out | refine below_set ?_ GE397.out) | exact HB.out)⟩⟩
             case round =>
              clear H'
              (try clear c1); (try clear p1); (try clear q1); (try clear hx1); (try clear qi1); (try clear c2); (try clear p2); (try clear q2); (try clear hx2); (try clear qi2); (try clear c3); (try clear c4); (try clear c4b0); (try clear c5); (try clear c5b0); (try clear p6); (try clear q6); (try clear hx6); (try clear c7); (try clear c7b0); (try clear c7b1); (try clear c8); (try clear c8b0); (try clear c8b1); (try clear c9); (try clear c9b0); (try clear c9b1); (try clear c12); (try clear c14); (try clear c14b0); (try clear c14b1); (try clear c14b2); (try clear c15); (try clear c15b0); (try clear c15b1); (try clear p16); (try clear q16); (try clear hx16); (try clear qi16); (try clear c18); (try clear c19); (try clear c19b0); (try clear c19b1); (try clear c21); (try clear c24); (try clear c24b0); (try clear c24b1); (try clear c24b2); (try clear c25); (try clear c25b0); (try clear c25b1); (try clear p26); (try clear q26); (try clear hx26); (try clear qi26); (try clear c27); (try clear c28); (try clear c28b0); (try clear c28b1); (try clear c30); (try clear hcz13_0); (try clear hcz13_1); (try clear hcz13_2); (try clear hcz13_3); (try clear hcz13_4); (try clear hcz22_0); (try clear hcz22_1); (try clear hcz22_2); (try clear hcz22_3); (try clear hcz22_4); (try clear hcz31_0); (try clear hcz31_1); (try clear hcz31_2); (try clear hcz31_3); (try clear hcz31_4); (try clear hfz13_0); (try clear hfz13_1); (try clear hfz13_2); (try clear hfz13_3); (try clear hfz13_4); (try clear hfz22_0); (try clear hfz22_1); (try clear hfz22_2); (try clear hfz22_3); (try clear hfz22_4); (try clear hfz31_0); (try clear hfz31_1); (try clear hfz31_2); (try clear hfz31_3); (try clear hfz31_4)
              obtain ⟨x7_4, x9_4, x398001_4, x398002_4, x398003_4, rfl, rfl, HA, HK4, HO_8, BK396, BK397, HB⟩ := hrel
              cases gk with
              | zero => exact absurd HA.out (by simp [horologeref16_Parse.l1])
              | succ k4 =>
               have H := HA.out
               clear HA
               simp only [horologeref16_Parse.l1] at H
               have HC34 := Aside0.mk H
               clear H
               go_upto_region 15 with (fail)
               go_cut [67] (fun v67 wc => ∃ (kq : Nat) (x67_33 : Bool), v67 = .bool x67_33 ∧ Aside0 (horologeref16_Parse.j5 kq a0 x4_1 x7_4 t400 x9_4 x67_33 3 x398001_4 x398002_4 x398003_4 7200 = some (r1, r2, r3, r4, r5, r6)) ∧ Aside0 (kq ≤ k4) ∧ Aside0 (Kd.R Kd.string 9 wc w.heap.size (fun _ => True) (.slice Ao33 t400.length co33) t400) ∧ Aside0 (wc.heap[gb396]? = some (.cells #[.int .i64 0, .int .i64 0, .int .i64 0, .int .i64 0, .int .i64 0] 30 (0, 0))) ∧ Aside0 (wc.heap[gb397]? = some (.cells #[.int .i64 3, .int .i64 x398001_4, .int .i64 x398002_4, .int .i64 x398003_4, .int .i64 7200] 30 (0, 0))) ∧ Aside0 (Below w.heap.size w wc))
               case first =>
                have H := HC34.out
                clear HC34
                by_cases c35 : x9_4 < 3
                ·rw [if_pos c35] at H
                 have c35b0 : decide (x9_4 < 3) = true := decide_eq_true c35
                 clear c35
                 (first | rw [c35b0] | (simp only [i64_w, i32_w]; rw [c35b0]) | skip)
                 have H' := Aside0.mk H
                 clear H
                 go_wp2
                 go_meet
                 case rel => exact ⟨_, (x7_4), (by first | rfl | (simp; done) | (simp [*]; done)), H', ⟨by have := HJ1.out; have := HJ9.out; have := HJ22.out; have := HK4.out; first | omega | exact Nat.le_refl _⟩, ⟨by (with_reducible repeat (first | apply Kd.R_alloc | apply Kd.R_drewN | apply Kd.R_drew)); exact HO_8.out⟩, ⟨by (with_reducible repeat (first | refine blk_drewN ?_ _ | refine blk_drew ?_ | refine blk_alloc ?_ _)); exact BK396.out⟩, ⟨by (with_reducible repeat (first | refine blk_drewN ?_ _ | refine blk_drew ?_ | refine blk_alloc ?_ _)); exact BK397.out⟩, ⟨by repeat (first | (with_reducible first | exact HB.out | apply below_alloc | apply pw_below_drewN | apply below_drew1 | refine below_set ?_ GE396.out | refine below_set ?_ GE397.out) | exact HB.out)⟩⟩
                ·rw [if_neg c35] at H
                 have c35b0 : decide (x9_4 < 3) = false := decide_eq_false c35
                 clear c35
                 (first | rw [c35b0] | (simp only [i64_w, i32_w]; rw [c35b0]) | skip)
                 have H' := Aside0.mk H
                 clear H
                 go_wp2
                 go_meet
                 case rel => exact ⟨_, (false), (by first | rfl | (simp; done) | (simp [*]; done)), H', ⟨by have := HJ1.out; have := HJ9.out; have := HJ22.out; have := HK4.out; first | omega | exact Nat.le_refl _⟩, ⟨by (with_reducible repeat (first | apply Kd.R_alloc | apply Kd.R_drewN | apply Kd.R_drew)); exact HO_8.out⟩, ⟨by (with_reducible repeat (first | refine blk_drewN ?_ _ | refine blk_drew ?_ | refine blk_alloc ?_ _)); exact BK396.out⟩, ⟨by (with_reducible repeat (first | refine blk_drewN ?_ _ | refine blk_drew ?_ | refine blk_alloc ?_ _)); exact BK397.out⟩, ⟨by repeat (first | (with_reducible first | exact HB.out | apply below_alloc | apply pw_below_drewN | apply below_drew1 | refine below_set ?_ GE396.out | refine below_set ?_ GE397.out) | exact HB.out)⟩⟩
               case rest =>
                clear HC34
                (try clear c1); (try clear p1); (try clear q1); (try clear hx1); (try clear qi1); (try clear c2); (try clear p2); (try clear q2); (try clear hx2); (try clear qi2); (try clear c3); (try clear c4); (try clear c4b0); (try clear c5); (try clear c5b0); (try clear p6); (try clear q6); (try clear hx6); (try clear c7); (try clear c7b0); (try clear c7b1); (try clear c8); (try clear c8b0); (try clear c8b1); (try clear c9); (try clear c9b0); (try clear c9b1); (try clear c12); (try clear c14); (try clear c14b0); (try clear c14b1); (try clear c14b2); (try clear c15); (try clear c15b0); (try clear c15b1); (try clear p16); (try clear q16); (try clear hx16); (try clear qi16); (try clear c18); (try clear c19); (try clear c19b0); (try clear c19b1); (try clear c21); (try clear c24); (try clear c24b0); (try clear c24b1); (try clear c24b2); (try clear c25); (try clear c25b0); (try clear c25b1); (try clear p26); (try clear q26); (try clear hx26); (try clear qi26); (try clear c27); (try clear c28); (try clear c28b0); (try clear c28b1); (try clear c30); (try clear c35); (try clear c35b0); (try clear hcz13_0); (try clear hcz13_1); (try clear hcz13_2); (try clear hcz13_3); (try clear hcz13_4); (try clear hcz22_0); (try clear hcz22_1); (try clear hcz22_2); (try clear hcz22_3); (try clear hcz22_4); (try clear hcz31_0); (try clear hcz31_1); (try clear hcz31_2); (try clear hcz31_3); (try clear hcz31_4); (try clear hfz13_0); (try clear hfz13_1); (try clear hfz13_2); (try clear hfz13_3); (try clear hfz13_4); (try clear hfz22_0); (try clear hfz22_1); (try clear hfz22_2); (try clear hfz22_3); (try clear hfz22_4); (try clear hfz31_0); (try clear hfz31_1); (try clear hfz31_2); (try clear hfz31_3); (try clear hfz31_4)
                obtain ⟨kq, x67_33, rfl, HA, HJ33, HO_8, BK396, BK397, HB⟩ := hcut
                cases kq with
                | zero => exact absurd HA.out (by simp [horologeref16_Parse.j5])
                | succ kj33 =>
                 have H := HA.out
                 clear HA
                 simp only [horologeref16_Parse.j5] at H
                 by_cases c36 : x67_33 = true
                 ·subst c36
                  have H1 : (if x9_4 = 0 then (horologeref16_Parse.j6 kj33 a0 x4_1 t400 x9_4 2 3 x398001_4 x398002_4 x398003_4 7200) else (horologeref16_Parse.j6 kj33 a0 x4_1 t400 x9_4 1 3 x398001_4 x398002_4 x398003_4 7200)) = some (r1, r2, r3, r4, r5, r6) := by rw [if_pos rfl] at H; exact H
                  clear H
                  have H := H1
                  clear H1
                  have HC37 := Aside0.mk H
                  clear H
                  go_upto_if 71 with (fail)
                  go_cut [10] (fun v10 wc => ∃ (kq : Nat) (x10_36 : Int), v10 = .int .i64 x10_36 ∧ Aside0 (horologeref16_Parse.j6 kq a0 x4_1 t400 x9_4 x10_36 3 x398001_4 x398002_4 x398003_4 7200 = some (r1, r2, r3, r4, r5, r6)) ∧ Aside0 (kq ≤ kj33) ∧ Aside0 (Kd.R Kd.string 9 wc w.heap.size (fun _ => True) (.slice Ao33 t400.length co33) t400) ∧ Aside0 (wc.heap[gb396]? = some (.cells #[.int .i64 0, .int .i64 0, .int .i64 0, .int .i64 0, .int .i64 0] 30 (0, 0))) ∧ Aside0 (wc.heap[gb397]? = some (.cells #[.int .i64 3, .int .i64 x398001_4, .int .i64 x398002_4, .int .i64 x398003_4, .int .i64 7200] 30 (0, 0))) ∧ Aside0 (Below w.heap.size w wc))
                  case first =>
                   have H := HC37.out
                   clear HC37
                   by_cases c38 : x9_4 = 0
                   ·rw [if_pos c38] at H
                    have c38b0 : (x9_4 == 0) = true := beq_iff_eq.mpr c38
                    have c38b1 : (x9_4 != 0) = false := bne_eq_false_iff_eq.mpr c38
                    clear c38
                    (first | rw [c38b0] | (simp only [i64_w, i32_w]; rw [c38b0]) | skip)
                    have H' := Aside0.mk H
                    clear H
                    go_wp2
                    go_meet
                    case rel => exact ⟨_, (2), (by first | rfl | (simp; done) | (simp [*]; done)), H', ⟨by have := HJ1.out; have := HJ9.out; have := HJ22.out; have := HK4.out; have := HJ33.out; first | omega | exact Nat.le_refl _⟩, ⟨by (with_reducible repeat (first | apply Kd.R_alloc | apply Kd.R_drewN | apply Kd.R_drew)); exact HO_8.out⟩, ⟨by (with_reducible repeat (first | refine blk_drewN ?_ _ | refine blk_drew ?_ | refine blk_alloc ?_ _)); exact BK396.out⟩, ⟨by (with_reducible repeat (first | refine blk_drewN ?_ _ | refine blk_drew ?_ | refine blk_alloc ?_ _)); exact BK397.out⟩, ⟨by repeat (first | (with_reducible first | exact HB.out | apply below_alloc | apply pw_below_drewN | apply below_drew1 | refine below_set ?_ GE396.out | refine below_set ?_ GE397.out) | exact HB.out)⟩⟩
                   ·rw [if_neg c38] at H
                    have c38b0 : (x9_4 == 0) = false := beq_eq_false_iff_ne.mpr c38
                    have c38b1 : (x9_4 != 0) = true := bne_iff_ne.mpr c38
                    (first | rw [c38b0] | (simp only [i64_w, i32_w]; rw [c38b0]) | skip)
                    have H' := Aside0.mk H
                    clear H
                    go_wp2
                    go_meet
                    case rel => exact ⟨_, (1), (by first | rfl | (simp; done) | (simp [*]; done)), H', ⟨by have := HJ1.out; have := HJ9.out; have := HJ22.out; have := HK4.out; have := HJ33.out; first | omega | exact Nat.le_refl _⟩, ⟨by (with_reducible repeat (first | apply Kd.R_alloc | apply Kd.R_drewN | apply Kd.R_drew)); exact HO_8.out⟩, ⟨by (with_reducible repeat (first | refine blk_drewN ?_ _ | refine blk_drew ?_ | refine blk_alloc ?_ _)); exact BK396.out⟩, ⟨by (with_reducible repeat (first | refine blk_drewN ?_ _ | refine blk_drew ?_ | refine blk_alloc ?_ _)); exact BK397.out⟩, ⟨by repeat (first | (with_reducible first | exact HB.out | apply below_alloc | apply pw_below_drewN | apply below_drew1 | refine below_set ?_ GE396.out | refine below_set ?_ GE397.out) | exact HB.out)⟩⟩
                  case rest =>
                   clear HC37
                   (try clear c1); (try clear p1); (try clear q1); (try clear hx1); (try clear qi1); (try clear c2); (try clear p2); (try clear q2); (try clear hx2); (try clear qi2); (try clear c3); (try clear c4); (try clear c4b0); (try clear c5); (try clear c5b0); (try clear p6); (try clear q6); (try clear hx6); (try clear c7); (try clear c7b0); (try clear c7b1); (try clear c8); (try clear c8b0); (try clear c8b1); (try clear c9); (try clear c9b0); (try clear c9b1); (try clear c12); (try clear c14); (try clear c14b0); (try clear c14b1); (try clear c14b2); (try clear c15); (try clear c15b0); (try clear c15b1); (try clear p16); (try clear q16); (try clear hx16); (try clear qi16); (try clear c18); (try clear c19); (try clear c19b0); (try clear c19b1); (try clear c21); (try clear c24); (try clear c24b0); (try clear c24b1); (try clear c24b2); (try clear c25); (try clear c25b0); (try clear c25b1); (try clear p26); (try clear q26); (try clear hx26); (try clear qi26); (try clear c27); (try clear c28); (try clear c28b0); (try clear c28b1); (try clear c30); (try clear c35); (try clear c35b0); (try clear c36); (try clear c38); (try clear c38b0); (try clear c38b1); (try clear hcz13_0); (try clear hcz13_1); (try clear hcz13_2); (try clear hcz13_3); (try clear hcz13_4); (try clear hcz22_0); (try clear hcz22_1); (try clear hcz22_2); (try clear hcz22_3); (try clear hcz22_4); (try clear hcz31_0); (try clear hcz31_1); (try clear hcz31_2); (try clear hcz31_3); (try clear hcz31_4); (try clear hfz13_0); (try clear hfz13_1); (try clear hfz13_2); (try clear hfz13_3); (try clear hfz13_4); (try clear hfz22_0); (try clear hfz22_1); (try clear hfz22_2); (try clear hfz22_3); (try clear hfz22_4); (try clear hfz31_0); (try clear hfz31_1); (try clear hfz31_2); (try clear hfz31_3); (try clear hfz31_4)
                   obtain ⟨kq, x10_36, rfl, HA, HJ36, HO_8, BK396, BK397, HB⟩ := hcut
                   cases kq with
                   | zero => exact absurd HA.out (by simp [horologeref16_Parse.j6])
                   | succ kj36 =>
                    have H := HA.out
                    clear HA
                    simp only [horologeref16_Parse.j6] at H
                    by_cases c39 : 0 ≤ x9_4
                    ·rw [if_pos c39] at H
                     have c39b0 : decide (0 ≤ x9_4) = true := decide_eq_true c39
                     clear c39
                     by_cases c40 : x9_4 < (t400.length : Int)
                     ·rw [if_pos c40] at H
                      have c40b0 : decide (x9_4 < (t400.length : Int)) = true := decide_eq_true c40
                      clear c40
                      replace H := Option.bind_eq_some_iff.mp H
                      obtain ⟨⟨t404, t405⟩, A410, H⟩ := H
                      replace H : (if x9_4 = 0 then (horologeref16_Parse.j7 kj36 a0 x4_1 t405 t400 x9_4 t404 3 t404 x398002_4 x398003_4 7200) else (horologeref16_Parse.j7 kj36 a0 x4_1 t405 t400 x9_4 t404 3 x398001_4 x398002_4 x398003_4 7200)) = some (r1, r2, r3, r4, r5, r6) := H
                      have A41 := Aside0.mk A410
                      clear A410
                      have HC42 := Aside0.mk H
                      clear H
                      have p403 : 0 ≤ (x9_4 : Int) := of_decide_eq_true (by first | (with_reducible assumption) | assumption)
                      have q403 : x9_4 < (t400.length : Int) := of_decide_eq_true (by first | (with_reducible assumption) | assumption)
                      obtain ⟨ad403, e403, hx403_0⟩ := Kd.at_string (Kd.R_reads' HO_8.out).2.2 x9_4 p403 q403
                      cases e403
                      replace p403 := eq_true p403
                      replace q403 := eq_true q403
                      go_upto_if 83 with (first | ((with_reducible refine gate_callee (f := 47) rfl ?_); refine goesL_ (some 78) rfl rfl Try.func47 (by kernel_rfl) rfl #[.string (rdOf ByteArray.empty t400 x9_4), .int .i64 1, .int .i64 x10_36] rfl (by (try simp only [List.map_toArray, List.map_cons, List.map_nil]); first | done | rfl | (simp only [List.length_drop, List.length_take]; rfl) | (refine congrArg (fun z_ => #[Value.int IntKind.i64 z_]) (?_ : Go.RowKit.wrap64 (IntKind.u8.wrap _) = _); rw [IntKind.wrap_u8]; unfold Go.RowKit.wrap64; omega)) ?_; (with_reducible refine (horologeref16_number.calls kj36 (rdOf ByteArray.empty t400 x9_4) 1 x10_36 t404 t405 _ A41.out).mono ?_); rintro e w' ⟨rfl, ⟨nd, rfl⟩⟩; refine ⟨_, rfl, ?_⟩))
                      (try simp only [Act.put, List.setIfInBounds_toArray, List.set_cons_zero, List.set_cons_succ])
                      go_cut [] (fun wc => ∃ (kq : Nat) (x398001_41 : Int), Aside0 (horologeref16_Parse.j7 kq a0 x4_1 t405 t400 x9_4 t404 3 x398001_41 x398002_4 x398003_4 7200 = some (r1, r2, r3, r4, r5, r6)) ∧ Aside0 (kq ≤ kj36) ∧ Aside0 (Kd.R Kd.string 9 wc w.heap.size (fun _ => True) (.slice (some ad403) t400.length co33) t400) ∧ Aside0 (wc.heap[gb396]? = some (.cells #[.int .i64 0, .int .i64 0, .int .i64 0, .int .i64 0, .int .i64 0] 30 (0, 0))) ∧ Aside0 (wc.heap[gb397]? = some (.cells #[.int .i64 3, .int .i64 x398001_41, .int .i64 x398002_4, .int .i64 x398003_4, .int .i64 7200] 30 (0, 0))) ∧ Aside0 (Below w.heap.size w wc))
                      case first =>
                       have H := HC42.out
                       clear HC42
                       by_cases c43 : x9_4 = 0
                       ·rw [if_pos c43] at H
                        have c43b0 : (x9_4 == 0) = true := beq_iff_eq.mpr c43
                        have c43b1 : (x9_4 != 0) = false := bne_eq_false_iff_eq.mpr c43
                        clear c43
                        (first | rw [c43b0] | (simp only [i64_w, i32_w]; rw [c43b0]) | skip)
                        have H' := Aside0.mk H
                        clear H
                        have hnb44 := NB397_396.out
                        have hnc44 := NB396_397.out
                        have hcz45_0 : wc.cell? ⟨gb397, 0, none⟩ = some (.int .i64 3) := (blk_cell BK397.out 0).trans rfl
                        have hcz45_1 : wc.cell? ⟨gb397, 1, none⟩ = some (.int .i64 x398001_4) := (blk_cell BK397.out 1).trans rfl
                        have hcz45_2 : wc.cell? ⟨gb397, 2, none⟩ = some (.int .i64 x398002_4) := (blk_cell BK397.out 2).trans rfl
                        have hcz45_3 : wc.cell? ⟨gb397, 3, none⟩ = some (.int .i64 x398003_4) := (blk_cell BK397.out 3).trans rfl
                        have hcz45_4 : wc.cell? ⟨gb397, 4, none⟩ = some (.int .i64 7200) := (blk_cell BK397.out 4).trans rfl
                        have hfz45_0 := blk_frozen BK397.out 0
                        have hfz45_1 := blk_frozen BK397.out 1
                        have hfz45_2 := blk_frozen BK397.out 2
                        have hfz45_3 := blk_frozen BK397.out 3
                        have hfz45_4 := blk_frozen BK397.out 4
                        go_wp2
                        go_meet
                        case rel => exact ⟨_, (t404), H', ⟨by have := HJ1.out; have := HJ9.out; have := HJ22.out; have := HK4.out; have := HJ33.out; have := HJ36.out; first | omega | exact Nat.le_refl _⟩, ⟨by (with_reducible repeat (first | apply Kd.R_alloc | apply Kd.R_drewN | apply Kd.R_drew)); exact Kd.R_mono (Kd.R_far (p := ⟨gb397, 1, none⟩) (Kd.R_types HO_8.out BK397.out (by decide)) (fun _ hk => hk.2) (.int .i64 t404)) (fun _ hk => trivial)⟩, ⟨by (with_reducible repeat (first | refine blk_drewN ?_ _ | refine blk_drew ?_ | refine blk_alloc ?_ _)); refine blk_far ?_ NB396_397.out _; (with_reducible repeat (first | refine blk_drewN ?_ _ | refine blk_drew ?_ | refine blk_alloc ?_ _)); exact BK396.out⟩, ⟨by (with_reducible repeat (first | refine blk_drewN ?_ _ | refine blk_drew ?_ | refine blk_alloc ?_ _)); refine blk_put (cs := #[.int .i64 3, .int .i64 x398001_4, .int .i64 x398002_4, .int .i64 x398003_4, .int .i64 7200]) ?_ 1 _ rfl; (with_reducible repeat (first | refine blk_drewN ?_ _ | refine blk_drew ?_ | refine blk_alloc ?_ _)); exact BK397.out⟩, ⟨by repeat (first | (with_reducible first | exact HB.out | apply below_alloc | apply pw_below_drewN | apply below_drew1 | refine below_set ?_ GE396.out | refine below_set ?_ GE397.out) | exact HB.out)⟩⟩
                       ·rw [if_neg c43] at H
                        have c43b0 : (x9_4 == 0) = false := beq_eq_false_iff_ne.mpr c43
                        have c43b1 : (x9_4 != 0) = true := bne_iff_ne.mpr c43
                        (first | rw [c43b0] | (simp only [i64_w, i32_w]; rw [c43b0]) | skip)
                        have H' := Aside0.mk H
                        clear H
                        go_wp2
                        go_meet
                        case rel => exact ⟨_, (x398001_4), H', ⟨by have := HJ1.out; have := HJ9.out; have := HJ22.out; have := HK4.out; have := HJ33.out; have := HJ36.out; first | omega | exact Nat.le_refl _⟩, ⟨by (with_reducible repeat (first | apply Kd.R_alloc | apply Kd.R_drewN | apply Kd.R_drew)); exact HO_8.out⟩, ⟨by (with_reducible repeat (first | refine blk_drewN ?_ _ | refine blk_drew ?_ | refine blk_alloc ?_ _)); exact BK396.out⟩, ⟨by (with_reducible repeat (first | refine blk_drewN ?_ _ | refine blk_drew ?_ | refine blk_alloc ?_ _)); exact BK397.out⟩, ⟨by repeat (first | (with_reducible first | exact HB.out | apply below_alloc | apply pw_below_drewN | apply below_drew1 | refine below_set ?_ GE396.out | refine below_set ?_ GE397.out) | exact HB.out)⟩⟩
                      case rest =>
                       clear HC42
                       (try clear c1); (try clear p1); (try clear q1); (try clear hx1); (try clear qi1); (try clear c2); (try clear p2); (try clear q2); (try clear hx2); (try clear qi2); (try clear c3); (try clear c4); (try clear c4b0); (try clear p4); (try clear q4); (try clear hx4); (try clear c5); (try clear c5b0); (try clear p6); (try clear q6); (try clear hx6); (try clear c7); (try clear c7b0); (try clear c7b1); (try clear c8); (try clear c8b0); (try clear c8b1); (try clear c9); (try clear c9b0); (try clear c9b1); (try clear c12); (try clear c14); (try clear c14b0); (try clear c14b1); (try clear c14b2); (try clear c15); (try clear c15b0); (try clear c15b1); (try clear p16); (try clear q16); (try clear hx16); (try clear qi16); (try clear c18); (try clear c19); (try clear c19b0); (try clear c19b1); (try clear c21); (try clear c24); (try clear c24b0); (try clear c24b1); (try clear c24b2); (try clear c25); (try clear c25b0); (try clear c25b1); (try clear p26); (try clear q26); (try clear hx26); (try clear qi26); (try clear c27); (try clear c28); (try clear c28b0); (try clear c28b1); (try clear c30); (try clear c35); (try clear c35b0); (try clear c36); (try clear c38); (try clear c38b0); (try clear c38b1); (try clear c39); (try clear c39b0); (try clear c40); (try clear c40b0); (try clear p40); (try clear q40); (try clear hx40); (try clear c43); (try clear c43b0); (try clear c43b1); (try clear c44); (try clear hcz13_0); (try clear hcz13_1); (try clear hcz13_2); (try clear hcz13_3); (try clear hcz13_4); (try clear hcz22_0); (try clear hcz22_1); (try clear hcz22_2); (try clear hcz22_3); (try clear hcz22_4); (try clear hcz31_0); (try clear hcz31_1); (try clear hcz31_2); (try clear hcz31_3); (try clear hcz31_4); (try clear hcz45_0); (try clear hcz45_1); (try clear hcz45_2); (try clear hcz45_3); (try clear hcz45_4); (try clear hfz13_0); (try clear hfz13_1); (try clear hfz13_2); (try clear hfz13_3); (try clear hfz13_4); (try clear hfz22_0); (try clear hfz22_1); (try clear hfz22_2); (try clear hfz22_3); (try clear hfz22_4); (try clear hfz31_0); (try clear hfz31_1); (try clear hfz31_2); (try clear hfz31_3); (try clear hfz31_4); (try clear hfz45_0); (try clear hfz45_1); (try clear hfz45_2); (try clear hfz45_3); (try clear hfz45_4); (try clear hx403_0); (try clear p403); (try clear q403)
                       obtain ⟨kq, x398001_41, HA, HJ41, HO_8, BK396, BK397, HB⟩ := hcut
                       cases kq with
                       | zero => exact absurd HA.out (by simp [horologeref16_Parse.j7])
                       | succ kj41 =>
                        have H := HA.out
                        clear HA
                        simp only [horologeref16_Parse.j7] at H
                        by_cases c46 : x9_4 = 1
                        ·rw [if_pos c46] at H
                         have c46b0 : (x9_4 == 1) = true := beq_iff_eq.mpr c46
                         have c46b1 : (x9_4 != 1) = false := bne_eq_false_iff_eq.mpr c46
                         clear c46
                         by_cases c47 : x9_4 = 2
                         ·rw [if_pos c47] at H
                          have c47b0 : (x9_4 == 2) = true := beq_iff_eq.mpr c47
                          have c47b1 : (x9_4 != 2) = false := bne_eq_false_iff_eq.mpr c47
                          clear c47
                          have H' := Aside0.mk H
                          clear H
                          have hnb48 := NB397_396.out
                          have hnc48 := NB396_397.out
                          have hcz49_0 : wc.cell? ⟨gb397, 0, none⟩ = some (.int .i64 3) := (blk_cell BK397.out 0).trans rfl
                          have hcz49_1 : wc.cell? ⟨gb397, 1, none⟩ = some (.int .i64 x398001_41) := (blk_cell BK397.out 1).trans rfl
                          have hcz49_2 : wc.cell? ⟨gb397, 2, none⟩ = some (.int .i64 x398002_4) := (blk_cell BK397.out 2).trans rfl
                          have hcz49_3 : wc.cell? ⟨gb397, 3, none⟩ = some (.int .i64 x398003_4) := (blk_cell BK397.out 3).trans rfl
                          have hcz49_4 : wc.cell? ⟨gb397, 4, none⟩ = some (.int .i64 7200) := (blk_cell BK397.out 4).trans rfl
                          have hfz49_0 := blk_frozen BK397.out 0
                          have hfz49_1 := blk_frozen BK397.out 1
                          have hfz49_2 := blk_frozen BK397.out 2
                          have hfz49_3 := blk_frozen BK397.out 3
                          have hfz49_4 := blk_frozen BK397.out 4
                          go_wp2
                          go_roundg kj41
                          case measure => have := HJ1.out; have := HJ9.out; have := HJ22.out; have := HK4.out; have := HJ33.out; have := HJ36.out; have := HJ41.out; omega
                          case rel => exact ⟨(t405), (wrap64 (x9_4 + 1)), (x398001_41), (t404), (t404), (by first | rfl | (simp; done) | (simp [*]; done)), (by first | rfl | (simp; done) | (simp [*]; done)), H', ⟨by have := HJ1.out; have := HJ9.out; have := HJ22.out; have := HK4.out; have := HJ33.out; have := HJ36.out; have := HJ41.out; omega⟩, ⟨by (with_reducible repeat (first | apply Kd.R_alloc | apply Kd.R_drewN | apply Kd.R_drew)); exact Kd.R_mono (Kd.R_far (p := ⟨gb397, 3, none⟩) (Kd.R_far (p := ⟨gb397, 2, none⟩) (Kd.R_types HO_8.out BK397.out (by decide)) (fun _ hk => hk.2) (.int .i64 t404)) (fun _ hk => hk.2) (.int .i64 t404)) (fun _ hk => trivial)⟩, ⟨by (with_reducible repeat (first | refine blk_drewN ?_ _ | refine blk_drew ?_ | refine blk_alloc ?_ _)); refine blk_far ?_ NB396_397.out _; (with_reducible repeat (first | refine blk_drewN ?_ _ | refine blk_drew ?_ | refine blk_alloc ?_ _)); refine blk_far ?_ NB396_397.out _; (with_reducible repeat (first | refine blk_drewN ?_ _ | refine blk_drew ?_ | refine blk_alloc ?_ _)); exact BK396.out⟩, ⟨by (with_reducible repeat (first | refine blk_drewN ?_ _ | refine blk_drew ?_ | refine blk_alloc ?_ _)); refine blk_put (cs := #[.int .i64 3, .int .i64 x398001_41, .int .i64 t404, .int .i64 x398003_4, .int .i64 7200]) ?_ 3 _ rfl; (with_reducible repeat (first | refine blk_drewN ?_ _ | refine blk_drew ?_ | refine blk_alloc ?_ _)); refine blk_put (cs := #[.int .i64 3, .int .i64 x398001_41, .int .i64 x398002_4, .int .i64 x398003_4, .int .i64 7200]) ?_ 2 _ rfl; (with_reducible repeat (first | refine blk_drewN ?_ _ | refine blk_drew ?_ | refine blk_alloc ?_ _)); exact BK397.out⟩, ⟨by repeat (first | (with_reducible first | exact HB.out | apply below_alloc | apply pw_below_drewN | apply below_drew1 | refine below_set ?_ GE396.out | refine below_set ?_ GE397.out) | exact HB.out)⟩⟩
                         ·rw [if_neg c47] at H
                          have c47b0 : (x9_4 == 2) = false := beq_eq_false_iff_ne.mpr c47
                          have c47b1 : (x9_4 != 2) = true := bne_iff_ne.mpr c47
                          have H' := Aside0.mk H
                          clear H
                          have hnb50 := NB397_396.out
                          have hnc50 := NB396_397.out
                          have hcz51_0 : wc.cell? ⟨gb397, 0, none⟩ = some (.int .i64 3) := (blk_cell BK397.out 0).trans rfl
                          have hcz51_1 : wc.cell? ⟨gb397, 1, none⟩ = some (.int .i64 x398001_41) := (blk_cell BK397.out 1).trans rfl
                          have hcz51_2 : wc.cell? ⟨gb397, 2, none⟩ = some (.int .i64 x398002_4) := (blk_cell BK397.out 2).trans rfl
                          have hcz51_3 : wc.cell? ⟨gb397, 3, none⟩ = some (.int .i64 x398003_4) := (blk_cell BK397.out 3).trans rfl
                          have hcz51_4 : wc.cell? ⟨gb397, 4, none⟩ = some (.int .i64 7200) := (blk_cell BK397.out 4).trans rfl
                          have hfz51_0 := blk_frozen BK397.out 0
                          have hfz51_1 := blk_frozen BK397.out 1
                          have hfz51_2 := blk_frozen BK397.out 2
                          have hfz51_3 := blk_frozen BK397.out 3
                          have hfz51_4 := blk_frozen BK397.out 4
                          go_wp2
                          go_roundg kj41
                          case measure => have := HJ1.out; have := HJ9.out; have := HJ22.out; have := HK4.out; have := HJ33.out; have := HJ36.out; have := HJ41.out; omega
                          case rel => exact ⟨(t405), (wrap64 (x9_4 + 1)), (x398001_41), (t404), (x398003_4), (by first | rfl | (simp; done) | (simp [*]; done)), (by first | rfl | (simp; done) | (simp [*]; done)), H', ⟨by have := HJ1.out; have := HJ9.out; have := HJ22.out; have := HK4.out; have := HJ33.out; have := HJ36.out; have := HJ41.out; omega⟩, ⟨by (with_reducible repeat (first | apply Kd.R_alloc | apply Kd.R_drewN | apply Kd.R_drew)); exact Kd.R_mono (Kd.R_far (p := ⟨gb397, 2, none⟩) (Kd.R_types HO_8.out BK397.out (by decide)) (fun _ hk => hk.2) (.int .i64 t404)) (fun _ hk => trivial)⟩, ⟨by (with_reducible repeat (first | refine blk_drewN ?_ _ | refine blk_drew ?_ | refine blk_alloc ?_ _)); refine blk_far ?_ NB396_397.out _; (with_reducible repeat (first | refine blk_drewN ?_ _ | refine blk_drew ?_ | refine blk_alloc ?_ _)); exact BK396.out⟩, ⟨by (with_reducible repeat (first | refine blk_drewN ?_ _ | refine blk_drew ?_ | refine blk_alloc ?_ _)); refine blk_put (cs := #[.int .i64 3, .int .i64 x398001_41, .int .i64 x398002_4, .int .i64 x398003_4, .int .i64 7200]) ?_ 2 _ rfl; (with_reducible repeat (first | refine blk_drewN ?_ _ | refine blk_drew ?_ | refine blk_alloc ?_ _)); exact BK397.out⟩, ⟨by repeat (first | (with_reducible first | exact HB.out | apply below_alloc | apply pw_below_drewN | apply below_drew1 | refine below_set ?_ GE396.out | refine below_set ?_ GE397.out) | exact HB.out)⟩⟩
                        ·rw [if_neg c46] at H
                         have c46b0 : (x9_4 == 1) = false := beq_eq_false_iff_ne.mpr c46
                         have c46b1 : (x9_4 != 1) = true := bne_iff_ne.mpr c46
                         by_cases c52 : x9_4 = 2
                         ·rw [if_pos c52] at H
                          have c52b0 : (x9_4 == 2) = true := beq_iff_eq.mpr c52
                          have c52b1 : (x9_4 != 2) = false := bne_eq_false_iff_eq.mpr c52
                          clear c52
                          have H' := Aside0.mk H
                          clear H
                          have hnb53 := NB397_396.out
                          have hnc53 := NB396_397.out
                          have hcz54_0 : wc.cell? ⟨gb397, 0, none⟩ = some (.int .i64 3) := (blk_cell BK397.out 0).trans rfl
                          have hcz54_1 : wc.cell? ⟨gb397, 1, none⟩ = some (.int .i64 x398001_41) := (blk_cell BK397.out 1).trans rfl
                          have hcz54_2 : wc.cell? ⟨gb397, 2, none⟩ = some (.int .i64 x398002_4) := (blk_cell BK397.out 2).trans rfl
                          have hcz54_3 : wc.cell? ⟨gb397, 3, none⟩ = some (.int .i64 x398003_4) := (blk_cell BK397.out 3).trans rfl
                          have hcz54_4 : wc.cell? ⟨gb397, 4, none⟩ = some (.int .i64 7200) := (blk_cell BK397.out 4).trans rfl
                          have hfz54_0 := blk_frozen BK397.out 0
                          have hfz54_1 := blk_frozen BK397.out 1
                          have hfz54_2 := blk_frozen BK397.out 2
                          have hfz54_3 := blk_frozen BK397.out 3
                          have hfz54_4 := blk_frozen BK397.out 4
                          go_wp2
                          go_roundg kj41
                          case measure => have := HJ1.out; have := HJ9.out; have := HJ22.out; have := HK4.out; have := HJ33.out; have := HJ36.out; have := HJ41.out; omega
                          case rel => exact ⟨(t405), (wrap64 (x9_4 + 1)), (x398001_41), (x398002_4), (t404), (by first | rfl | (simp; done) | (simp [*]; done)), (by first | rfl | (simp; done) | (simp [*]; done)), H', ⟨by have := HJ1.out; have := HJ9.out; have := HJ22.out; have := HK4.out; have := HJ33.out; have := HJ36.out; have := HJ41.out; omega⟩, ⟨by (with_reducible repeat (first | apply Kd.R_alloc | apply Kd.R_drewN | apply Kd.R_drew)); exact Kd.R_mono (Kd.R_far (p := ⟨gb397, 3, none⟩) (Kd.R_types HO_8.out BK397.out (by decide)) (fun _ hk => hk.2) (.int .i64 t404)) (fun _ hk => trivial)⟩, ⟨by (with_reducible repeat (first | refine blk_drewN ?_ _ | refine blk_drew ?_ | refine blk_alloc ?_ _)); refine blk_far ?_ NB396_397.out _; (with_reducible repeat (first | refine blk_drewN ?_ _ | refine blk_drew ?_ | refine blk_alloc ?_ _)); exact BK396.out⟩, ⟨by (with_reducible repeat (first | refine blk_drewN ?_ _ | refine blk_drew ?_ | refine blk_alloc ?_ _)); refine blk_put (cs := #[.int .i64 3, .int .i64 x398001_41, .int .i64 x398002_4, .int .i64 x398003_4, .int .i64 7200]) ?_ 3 _ rfl; (with_reducible repeat (first | refine blk_drewN ?_ _ | refine blk_drew ?_ | refine blk_alloc ?_ _)); exact BK397.out⟩, ⟨by repeat (first | (with_reducible first | exact HB.out | apply below_alloc | apply pw_below_drewN | apply below_drew1 | refine below_set ?_ GE396.out | refine below_set ?_ GE397.out) | exact HB.out)⟩⟩
                         ·rw [if_neg c52] at H
                          have c52b0 : (x9_4 == 2) = false := beq_eq_false_iff_ne.mpr c52
                          have c52b1 : (x9_4 != 2) = true := bne_iff_ne.mpr c52
                          have H' := Aside0.mk H
                          clear H
                          go_wp2
                          go_roundg kj41
                          case measure => have := HJ1.out; have := HJ9.out; have := HJ22.out; have := HK4.out; have := HJ33.out; have := HJ36.out; have := HJ41.out; omega
                          case rel => exact ⟨(t405), (wrap64 (x9_4 + 1)), (x398001_41), (x398002_4), (x398003_4), (by first | rfl | (simp; done) | (simp [*]; done)), (by first | rfl | (simp; done) | (simp [*]; done)), H', ⟨by have := HJ1.out; have := HJ9.out; have := HJ22.out; have := HK4.out; have := HJ33.out; have := HJ36.out; have := HJ41.out; omega⟩, ⟨by (with_reducible repeat (first | apply Kd.R_alloc | apply Kd.R_drewN | apply Kd.R_drew)); exact HO_8.out⟩, ⟨by (with_reducible repeat (first | refine blk_drewN ?_ _ | refine blk_drew ?_ | refine blk_alloc ?_ _)); exact BK396.out⟩, ⟨by (with_reducible repeat (first | refine blk_drewN ?_ _ | refine blk_drew ?_ | refine blk_alloc ?_ _)); exact BK397.out⟩, ⟨by repeat (first | (with_reducible first | exact HB.out | apply below_alloc | apply pw_below_drewN | apply below_drew1 | refine below_set ?_ GE396.out | refine below_set ?_ GE397.out) | exact HB.out)⟩⟩
                     ·rw [if_neg c40] at H
                      exact absurd H (by simp)
                    ·rw [if_neg c39] at H
                     exact absurd H (by simp)
                 ·replace c36 := Bool.eq_false_iff.mpr c36
                  subst c36
                  have H1 : (horologeref16_Parse.j8 kj33 a0 x4_1 x7_4 3 x398001_4 x398002_4 x398003_4 7200) = some (r1, r2, r3, r4, r5, r6) := by rw [if_neg (show ¬ (false = true) by decide)] at H; exact H
                  clear H
                  have H := H1
                  clear H1
                  have H' := Aside0.mk H
                  clear H
                  go_wp2
                  go_meet
                  case rel => exact ⟨_, (x7_4), (3), (x398001_4), (x398002_4), (x398003_4), (by first | rfl | (simp; done) | (simp [*]; done)), H', ⟨by have := HJ1.out; have := HJ9.out; have := HJ22.out; have := HK4.out; have := HJ33.out; first | omega | exact Nat.le_refl _⟩, ⟨by (with_reducible repeat (first | refine blk_drewN ?_ _ | refine blk_drew ?_ | refine blk_alloc ?_ _)); exact BK396.out⟩, ⟨by (with_reducible repeat (first | refine blk_drewN ?_ _ | refine blk_drew ?_ | refine blk_alloc ?_ _)); exact BK397.out⟩, ⟨by repeat (first | (with_reducible first | exact HB.out | apply below_alloc | apply pw_below_drewN | apply below_drew1 | refine below_set ?_ GE396.out | refine below_set ?_ GE397.out) | exact HB.out)⟩⟩
            ·rw [if_neg c28] at H
             exact absurd H (by simp)
           ·replace c27 := Bool.eq_false_iff.mpr c27
            subst c27
            have H1 : ((horologeref16_number.f kj22 cu_ 1 3).bind fun bt406 => (horologeref16_Parse.j8 kj22 a0 x4_1 bt406.2 2 0 0 bt406.1 7200)) = some (r1, r2, r3, r4, r5, r6) := by rw [if_neg (show ¬ (false = true) by decide)] at H; exact H
            clear H
            have H := H1
            clear H1
            replace H := Option.bind_eq_some_iff.mp H
            obtain ⟨⟨t406, t407⟩, A550, H⟩ := H
            replace H : (horologeref16_Parse.j8 kj22 a0 x4_1 t407 2 0 0 t406 7200) = some (r1, r2, r3, r4, r5, r6) := H
            have A55 := Aside0.mk A550
            clear A550
            have H' := Aside0.mk H
            clear H
            go_wp2_with (first | ((with_reducible refine gate_callee (f := 47) rfl ?_); refine goesL_ (some 96) rfl rfl Try.func47 (by kernel_rfl) rfl #[.string cu_, .int .i64 1, .int .i64 3] rfl (by (try simp only [List.map_toArray, List.map_cons, List.map_nil]); first | done | rfl | (simp only [List.length_drop, List.length_take]; rfl) | (refine congrArg (fun z_ => #[Value.int IntKind.i64 z_]) (?_ : Go.RowKit.wrap64 (IntKind.u8.wrap _) = _); rw [IntKind.wrap_u8]; unfold Go.RowKit.wrap64; omega)) ?_; (with_reducible refine (horologeref16_number.calls kj22 cu_ 1 3 t406 t407 _ A55.out).mono ?_); rintro e w' ⟨rfl, ⟨nd, rfl⟩⟩; refine ⟨_, rfl, ?_⟩; (try (rw [drewN_self wc]; generalize hq_ : World.drewN wc _ = wc; have n0_ : Aside0 (wc.heap[gb396]? = some (.cells #[.int .i64 0, .int .i64 0, .int .i64 0, .int .i64 0, .int .i64 0] 30 (0, 0))) := ⟨by rw [← hq_]; exact (by (with_reducible repeat (first | refine blk_drewN ?_ _ | refine blk_drew ?_ | refine blk_alloc ?_ _)); exact BK396.out)⟩; have n1_ : Aside0 (wc.heap[gb397]? = some (.cells #[.int .i64 2, .int .i64 0, .int .i64 0, .int .i64 0, .int .i64 7200] 30 (0, 0))) := ⟨by rw [← hq_]; exact (by (with_reducible repeat (first | refine blk_drewN ?_ _ | refine blk_drew ?_ | refine blk_alloc ?_ _)); exact BK397.out)⟩; have n2_ : Aside0 (Below w.heap.size w wc) := ⟨by rw [← hq_]; exact (by repeat (first | (with_reducible first | exact HB.out | apply below_alloc | apply pw_below_drewN | apply below_drew1 | refine below_set ?_ GE396.out | refine below_set ?_ GE397.out) | exact HB.out))⟩; clear BK396 BK397 HB hq_; have BK396 := n0_; have BK397 := n1_; have HB := n2_; clear n0_ n1_ n2_)); have hnb56 := NB397_396.out; have hnc56 := NB396_397.out; have hcz57_0 : wc.cell? ⟨gb397, 0, none⟩ = some (.int .i64 2) := (blk_cell BK397.out 0).trans rfl; have hcz57_1 : wc.cell? ⟨gb397, 1, none⟩ = some (.int .i64 0) := (blk_cell BK397.out 1).trans rfl; have hcz57_2 : wc.cell? ⟨gb397, 2, none⟩ = some (.int .i64 0) := (blk_cell BK397.out 2).trans rfl; have hcz57_3 : wc.cell? ⟨gb397, 3, none⟩ = some (.int .i64 0) := (blk_cell BK397.out 3).trans rfl; have hcz57_4 : wc.cell? ⟨gb397, 4, none⟩ = some (.int .i64 7200) := (blk_cell BK397.out 4).trans rfl; have hfz57_0 := blk_frozen BK397.out 0; have hfz57_1 := blk_frozen BK397.out 1; have hfz57_2 := blk_frozen BK397.out 2; have hfz57_3 := blk_frozen BK397.out 3; have hfz57_4 := blk_frozen BK397.out 4))
            go_meet
            case rel => exact ⟨_, (t407), (2), (0), (0), (t406), (by first | rfl | (simp; done) | (simp [*]; done)), H', ⟨by have := HJ1.out; have := HJ9.out; have := HJ22.out; first | omega | exact Nat.le_refl _⟩, ⟨by (with_reducible repeat (first | refine blk_drewN ?_ _ | refine blk_drew ?_ | refine blk_alloc ?_ _)); refine blk_far ?_ NB396_397.out _; (with_reducible repeat (first | refine blk_drewN ?_ _ | refine blk_drew ?_ | refine blk_alloc ?_ _)); exact BK396.out⟩, ⟨by (with_reducible repeat (first | refine blk_drewN ?_ _ | refine blk_drew ?_ | refine blk_alloc ?_ _)); refine blk_put (cs := #[.int .i64 2, .int .i64 0, .int .i64 0, .int .i64 0, .int .i64 7200]) ?_ 3 _ rfl; (with_reducible repeat (first | refine blk_drewN ?_ _ | refine blk_drew ?_ | refine blk_alloc ?_ _)); exact BK397.out⟩, ⟨by repeat (first | (with_reducible first | exact HB.out | apply below_alloc | apply pw_below_drewN | apply below_drew1 | refine below_set ?_ GE396.out | refine below_set ?_ GE397.out) | exact HB.out)⟩⟩
       case rest =>
        clear HC17
        (try clear c1); (try clear p1); (try clear q1); (try clear hx1); (try clear qi1); (try clear c2); (try clear p2); (try clear q2); (try clear hx2); (try clear qi2); (try clear c3); (try clear c4); (try clear c4b0); (try clear p4); (try clear q4); (try clear hx4); (try clear c5); (try clear c5b0); (try clear p6); (try clear q6); (try clear hx6); (try clear c7); (try clear c7b0); (try clear c7b1); (try clear c8); (try clear c8b0); (try clear c8b1); (try clear c9); (try clear c9b0); (try clear c9b1); (try clear c12); (try clear c14); (try clear c14b0); (try clear c14b1); (try clear c14b2); (try clear c15); (try clear c15b0); (try clear c15b1); (try clear p16); (try clear q16); (try clear hx16); (try clear qi16); (try clear c18); (try clear c19); (try clear c19b0); (try clear c19b1); (try clear c21); (try clear c24); (try clear c24b0); (try clear c24b1); (try clear c24b2); (try clear c25); (try clear c25b0); (try clear c25b1); (try clear p26); (try clear q26); (try clear hx26); (try clear qi26); (try clear c27); (try clear c28); (try clear c28b0); (try clear c28b1); (try clear c30); (try clear c35); (try clear c35b0); (try clear c36); (try clear c38); (try clear c38b0); (try clear c38b1); (try clear c39); (try clear c39b0); (try clear c40); (try clear c40b0); (try clear p40); (try clear q40); (try clear hx40); (try clear c43); (try clear c43b0); (try clear c43b1); (try clear c44); (try clear c46); (try clear c46b0); (try clear c46b1); (try clear c47); (try clear c47b0); (try clear c47b1); (try clear c48); (try clear c50); (try clear c52); (try clear c52b0); (try clear c52b1); (try clear c53); (try clear c56); (try clear hcz13_0); (try clear hcz13_1); (try clear hcz13_2); (try clear hcz13_3); (try clear hcz13_4); (try clear hcz22_0); (try clear hcz22_1); (try clear hcz22_2); (try clear hcz22_3); (try clear hcz22_4); (try clear hcz31_0); (try clear hcz31_1); (try clear hcz31_2); (try clear hcz31_3); (try clear hcz31_4); (try clear hcz45_0); (try clear hcz45_1); (try clear hcz45_2); (try clear hcz45_3); (try clear hcz45_4); (try clear hcz49_0); (try clear hcz49_1); (try clear hcz49_2); (try clear hcz49_3); (try clear hcz49_4); (try clear hcz51_0); (try clear hcz51_1); (try clear hcz51_2); (try clear hcz51_3); (try clear hcz51_4); (try clear hcz54_0); (try clear hcz54_1); (try clear hcz54_2); (try clear hcz54_3); (try clear hcz54_4); (try clear hcz57_0); (try clear hcz57_1); (try clear hcz57_2); (try clear hcz57_3); (try clear hcz57_4); (try clear hfz13_0); (try clear hfz13_1); (try clear hfz13_2); (try clear hfz13_3); (try clear hfz13_4); (try clear hfz22_0); (try clear hfz22_1); (try clear hfz22_2); (try clear hfz22_3); (try clear hfz22_4); (try clear hfz31_0); (try clear hfz31_1); (try clear hfz31_2); (try clear hfz31_3); (try clear hfz31_4); (try clear hfz45_0); (try clear hfz45_1); (try clear hfz45_2); (try clear hfz45_3); (try clear hfz45_4); (try clear hfz49_0); (try clear hfz49_1); (try clear hfz49_2); (try clear hfz49_3); (try clear hfz49_4); (try clear hfz51_0); (try clear hfz51_1); (try clear hfz51_2); (try clear hfz51_3); (try clear hfz51_4); (try clear hfz54_0); (try clear hfz54_1); (try clear hfz54_2); (try clear hfz54_3); (try clear hfz54_4); (try clear hfz57_0); (try clear hfz57_1); (try clear hfz57_2); (try clear hfz57_3); (try clear hfz57_4); (try clear hx403_0); (try clear p403); (try clear q403)
        obtain ⟨kq, x7_16, x398000_16, x398001_16, x398002_16, x398003_16, rfl, HA, HJ16, BK396, BK397, HB⟩ := hcut
        cases kq with
        | zero => exact absurd HA.out (by simp [horologeref16_Parse.j8])
        | succ kj16 =>
         have H := HA.out
         clear HA
         simp only [horologeref16_Parse.j8] at H
         by_cases c58 : x7_16 = true
         ·subst c58
          have H1 : (if x4_1 < (a0.size : Int) then (if 0 ≤ (wrap64 (x4_1 + 1)) then (if (wrap64 (x4_1 + 1)) ≤ (a0.size : Int) then ((horologeref16_ParseClock.f kj16 (a0.extract ((wrap64 (x4_1 + 1)) : Int).toNat a0.size) 167).bind fun bt408 => (if bt408.2 = 0 then ((horologeref16_Check.f kj16 x398000_16 x398001_16 x398002_16 x398003_16 bt408.1).bind fun t410 => (if t410 = 0 then (some (x398000_16, x398001_16, x398002_16, x398003_16, bt408.1, 0)) else (some (0, 0, 0, 0, 0, t410)))) else (some (0, 0, 0, 0, 0, bt408.2)))) else (none)) else (none)) else ((horologeref16_Check.f kj16 x398000_16 x398001_16 x398002_16 x398003_16 7200).bind fun t411 => (if t411 = 0 then (some (x398000_16, x398001_16, x398002_16, x398003_16, 7200, 0)) else (some (0, 0, 0, 0, 0, t411))))) = some (r1, r2, r3, r4, r5, r6) := by rw [if_pos rfl] at H; exact H
          clear H
          have H := H1
          clear H1
          by_cases c59 : x4_1 < (a0.size : Int)
          ·rw [if_pos c59] at H
           have c59b0 : decide (x4_1 < (a0.size : Int)) = true := decide_eq_true c59
           clear c59
           obtain ⟨ji60, hji60⟩ : ∃ j_ : Int, (wrap64 (x4_1 + 1)) = j_ := ⟨_, rfl⟩
           replace H : (if 0 ≤ (ji60) then (if (ji60) ≤ (a0.size : Int) then ((horologeref16_ParseClock.f kj16 (a0.extract ((ji60) : Int).toNat a0.size) 167).bind fun bt408 => (if bt408.2 = 0 then ((horologeref16_Check.f kj16 x398000_16 x398001_16 x398002_16 x398003_16 bt408.1).bind fun t410 => (if t410 = 0 then (some (x398000_16, x398001_16, x398002_16, x398003_16, bt408.1, 0)) else (some (0, 0, 0, 0, 0, t410)))) else (some (0, 0, 0, 0, 0, bt408.2)))) else (none)) else (none)) = some (r1, r2, r3, r4, r5, r6) := by first | (rw [hji60] at H; exact H) | (simp only [hji60] at H ⊢; exact H)
           have hji60w : (IntKind.i64.wrap (x4_1 + 1)) = ji60 := (i64_w _).trans hji60
           by_cases c61 : 0 ≤ (ji60)
           ·rw [if_pos c61] at H
            have c61b0 := eq_true c61
            have c61b1 : decide (0 ≤ (ji60)) = true := decide_eq_true c61
            clear c61
            by_cases c62 : (ji60) ≤ (a0.size : Int)
            ·rw [if_pos c62] at H
             have c62b0 := eq_true c62
             have c62b1 : decide ((ji60) ≤ (a0.size : Int)) = true := decide_eq_true c62
             clear c62
             replace H := Option.bind_eq_some_iff.mp H
             obtain ⟨⟨t408, t409⟩, A630, H⟩ := H
             replace H : (if t409 = 0 then ((horologeref16_Check.f kj16 x398000_16 x398001_16 x398002_16 x398003_16 t408).bind fun t410 => (if t410 = 0 then (some (x398000_16, x398001_16, x398002_16, x398003_16, t408, 0)) else (some (0, 0, 0, 0, 0, t410)))) else (some (0, 0, 0, 0, 0, t409))) = some (r1, r2, r3, r4, r5, r6) := H
             have A63 := Aside0.mk A630
             clear A630
             by_cases c64 : t409 = 0
             ·rw [if_pos c64] at H
              have c64b0 : (t409 == 0) = true := beq_iff_eq.mpr c64
              have c64b1 : (t409 != 0) = false := bne_eq_false_iff_eq.mpr c64
              clear c64
              replace H := Option.bind_eq_some_iff.mp H
              obtain ⟨t410, A650, H⟩ := H
              replace H : (if t410 = 0 then (some (x398000_16, x398001_16, x398002_16, x398003_16, t408, 0)) else (some (0, 0, 0, 0, 0, t410))) = some (r1, r2, r3, r4, r5, r6) := H
              have A65 := Aside0.mk A650
              clear A650
              by_cases c66 : t410 = 0
              ·rw [if_pos c66] at H
               have c66b0 : (t410 == 0) = true := beq_iff_eq.mpr c66
               have c66b1 : (t410 != 0) = false := bne_eq_false_iff_eq.mpr c66
               clear c66
               simp only [Option.some.injEq, Prod.mk.injEq] at H
               obtain ⟨rfl, rfl, rfl, rfl, rfl, rfl⟩ := H
               go_wp2_with (first | ((with_reducible refine gate_callee (f := 20) rfl ?_); refine goesL_ (some 112) rfl rfl Try.func20 (by kernel_rfl) rfl #[.string (a0.extract ((ji60) : Int).toNat a0.size), .int .i64 167] rfl (by (try simp only [List.map_toArray, List.map_cons, List.map_nil]); first | done | (simp only [hji60]; rfl) | rfl | (simp only [List.length_drop, List.length_take]; rfl) | (refine congrArg (fun z_ => #[Value.int IntKind.i64 z_]) (?_ : Go.RowKit.wrap64 (IntKind.u8.wrap _) = _); rw [IntKind.wrap_u8]; unfold Go.RowKit.wrap64; omega)) ?_; (with_reducible refine (horologeref16_ParseClock.calls kj16 (a0.extract ((ji60) : Int).toNat a0.size) 167 t408 t409 _ A63.out).mono ?_); rintro e w67 ⟨rfl, hb⟩; refine ⟨_, rfl, ?_⟩; have n0_ := Aside0.mk (blk_below (g := gb396) (o := .cells #[.int .i64 0, .int .i64 0, .int .i64 0, .int .i64 0, .int .i64 0] 30 (0, 0)) (by (with_reducible repeat (first | refine blk_drewN ?_ _ | refine blk_drew ?_ | refine blk_alloc ?_ _)); exact BK396.out) hb); have n1_ := Aside0.mk (blk_below (g := gb397) (o := .cells #[.int .i64 x398000_16, .int .i64 x398001_16, .int .i64 x398002_16, .int .i64 x398003_16, .int .i64 7200] 30 (0, 0)) (by (with_reducible repeat (first | refine blk_drewN ?_ _ | refine blk_drew ?_ | refine blk_alloc ?_ _)); exact BK397.out) hb); have n2_ := Aside0.mk (below_step (by repeat (first | (with_reducible first | exact HB.out | apply below_alloc | apply pw_below_drewN | apply below_drew1 | refine below_set ?_ GE396.out | refine below_set ?_ GE397.out) | exact HB.out)) hb); clear BK396; clear BK397; clear HB; have BK396 := n0_; have BK397 := n1_; have HB := n2_; clear n0_ n1_ n2_; (try clear hb); (try clear hb2); (try clear hk); (try clear hi); have hnb68 := NB397_396.out; have hnc68 := NB396_397.out; have hcz69_0 : w67.cell? ⟨gb397, 0, none⟩ = some (.int .i64 x398000_16) := (blk_cell BK397.out 0).trans rfl; have hcz69_1 : w67.cell? ⟨gb397, 1, none⟩ = some (.int .i64 x398001_16) := (blk_cell BK397.out 1).trans rfl; have hcz69_2 : w67.cell? ⟨gb397, 2, none⟩ = some (.int .i64 x398002_16) := (blk_cell BK397.out 2).trans rfl; have hcz69_3 : w67.cell? ⟨gb397, 3, none⟩ = some (.int .i64 x398003_16) := (blk_cell BK397.out 3).trans rfl; have hcz69_4 : w67.cell? ⟨gb397, 4, none⟩ = some (.int .i64 7200) := (blk_cell BK397.out 4).trans rfl; have hfz69_0 := blk_frozen BK397.out 0; have hfz69_1 := blk_frozen BK397.out 1; have hfz69_2 := blk_frozen BK397.out 2; have hfz69_3 := blk_frozen BK397.out 3; have hfz69_4 := blk_frozen BK397.out 4) | ((with_reducible refine gate_callee (f := 11) rfl ?_); refine goesL_ (some 122) rfl rfl Try.func11 (by kernel_rfl) rfl #[.agg #[.int .i64 x398000_16, .int .i64 x398001_16, .int .i64 x398002_16, .int .i64 x398003_16, .int .i64 t408]] rfl (by (try simp only [List.map_toArray, List.map_cons, List.map_nil]); first | done | rfl | (simp only [List.length_drop, List.length_take]; rfl) | (refine congrArg (fun z_ => #[Value.int IntKind.i64 z_]) (?_ : Go.RowKit.wrap64 (IntKind.u8.wrap _) = _); rw [IntKind.wrap_u8]; unfold Go.RowKit.wrap64; omega)) ?_; (with_reducible refine (horologeref16_Check.calls kj16 x398000_16 x398001_16 x398002_16 x398003_16 t408 t410 _ A65.out).mono ?_); rintro e w70 ⟨rfl, hb⟩; refine ⟨_, rfl, ?_⟩; have n0_ := Aside0.mk (blk_below (g := gb396) (o := .cells #[.int .i64 0, .int .i64 0, .int .i64 0, .int .i64 0, .int .i64 0] 30 (0, 0)) (by (with_reducible repeat (first | refine blk_drewN ?_ _ | refine blk_drew ?_ | refine blk_alloc ?_ _)); refine blk_far ?_ NB396_397.out _; (with_reducible repeat (first | refine blk_drewN ?_ _ | refine blk_drew ?_ | refine blk_alloc ?_ _)); exact BK396.out) hb); have n1_ := Aside0.mk (blk_below (g := gb397) (o := .cells #[.int .i64 x398000_16, .int .i64 x398001_16, .int .i64 x398002_16, .int .i64 x398003_16, .int .i64 t408] 30 (0, 0)) (by (with_reducible repeat (first | refine blk_drewN ?_ _ | refine blk_drew ?_ | refine blk_alloc ?_ _)); refine blk_put (cs := #[.int .i64 x398000_16, .int .i64 x398001_16, .int .i64 x398002_16, .int .i64 x398003_16, .int .i64 7200]) ?_ 4 _ rfl; (with_reducible repeat (first | refine blk_drewN ?_ _ | refine blk_drew ?_ | refine blk_alloc ?_ _)); exact BK397.out) hb); have n2_ := Aside0.mk (below_step (by repeat (first | (with_reducible first | exact HB.out | apply below_alloc | apply pw_below_drewN | apply below_drew1 | refine below_set ?_ GE396.out | refine below_set ?_ GE397.out) | exact HB.out)) hb); clear BK396; clear BK397; clear HB; have BK396 := n0_; have BK397 := n1_; have HB := n2_; clear n0_ n1_ n2_; (try clear hb); (try clear hb2); (try clear hk); (try clear hi); have hcz71_0 : w70.cell? ⟨gb397, 0, none⟩ = some (.int .i64 x398000_16) := (blk_cell BK397.out 0).trans rfl; have hcz71_1 : w70.cell? ⟨gb397, 1, none⟩ = some (.int .i64 x398001_16) := (blk_cell BK397.out 1).trans rfl; have hcz71_2 : w70.cell? ⟨gb397, 2, none⟩ = some (.int .i64 x398002_16) := (blk_cell BK397.out 2).trans rfl; have hcz71_3 : w70.cell? ⟨gb397, 3, none⟩ = some (.int .i64 x398003_16) := (blk_cell BK397.out 3).trans rfl; have hcz71_4 : w70.cell? ⟨gb397, 4, none⟩ = some (.int .i64 t408) := (blk_cell BK397.out 4).trans rfl; have hfz71_0 := blk_frozen BK397.out 0; have hfz71_1 := blk_frozen BK397.out 1; have hfz71_2 := blk_frozen BK397.out 2; have hfz71_3 := blk_frozen BK397.out 3; have hfz71_4 := blk_frozen BK397.out 4; have hcz72_0 : w70.cell? ⟨gb396, 0, none⟩ = some (.int .i64 0) := (blk_cell BK396.out 0).trans rfl; have hcz72_1 : w70.cell? ⟨gb396, 1, none⟩ = some (.int .i64 0) := (blk_cell BK396.out 1).trans rfl; have hcz72_2 : w70.cell? ⟨gb396, 2, none⟩ = some (.int .i64 0) := (blk_cell BK396.out 2).trans rfl; have hcz72_3 : w70.cell? ⟨gb396, 3, none⟩ = some (.int .i64 0) := (blk_cell BK396.out 3).trans rfl; have hcz72_4 : w70.cell? ⟨gb396, 4, none⟩ = some (.int .i64 0) := (blk_cell BK396.out 4).trans rfl; have hfz72_0 := blk_frozen BK396.out 0; have hfz72_1 := blk_frozen BK396.out 1; have hfz72_2 := blk_frozen BK396.out 2; have hfz72_3 := blk_frozen BK396.out 3; have hfz72_4 := blk_frozen BK396.out 4))
               refine bodyPost_ret (results_ct rfl _ _ gb396 30 #[.int .i64 x398000_16, .int .i64 x398001_16, .int .i64 x398002_16, .int .i64 x398003_16, .int .i64 t408] (0, 0) _ rfl (by (with_reducible repeat (first | refine blk_drewN ?_ _ | refine blk_drew ?_ | refine blk_alloc ?_ _)); refine blk_put (cs := #[.int .i64 x398000_16, .int .i64 x398001_16, .int .i64 x398002_16, .int .i64 x398003_16, .int .i64 0]) ?_ 4 _ rfl; (with_reducible repeat (first | refine blk_drewN ?_ _ | refine blk_drew ?_ | refine blk_alloc ?_ _)); refine blk_put (cs := #[.int .i64 x398000_16, .int .i64 x398001_16, .int .i64 x398002_16, .int .i64 0, .int .i64 0]) ?_ 3 _ rfl; (with_reducible repeat (first | refine blk_drewN ?_ _ | refine blk_drew ?_ | refine blk_alloc ?_ _)); refine blk_put (cs := #[.int .i64 x398000_16, .int .i64 x398001_16, .int .i64 0, .int .i64 0, .int .i64 0]) ?_ 2 _ rfl; (with_reducible repeat (first | refine blk_drewN ?_ _ | refine blk_drew ?_ | refine blk_alloc ?_ _)); refine blk_put (cs := #[.int .i64 x398000_16, .int .i64 0, .int .i64 0, .int .i64 0, .int .i64 0]) ?_ 1 _ rfl; (with_reducible repeat (first | refine blk_drewN ?_ _ | refine blk_drew ?_ | refine blk_alloc ?_ _)); refine blk_put (cs := #[.int .i64 0, .int .i64 0, .int .i64 0, .int .i64 0, .int .i64 0]) ?_ 0 _ rfl; (with_reducible repeat (first | refine blk_drewN ?_ _ | refine blk_drew ?_ | refine blk_alloc ?_ _)); exact BK396.out) Try.underlying30 rfl (by kernel_rfl)) rfl ?_
               exact ⟨by first | rfl | (simp [errW_none, errW_some] <;> rfl) | (simp only [← hji60]; first | rfl | (simp [errW_none, errW_some] <;> rfl)) | (simp [*, errW_none, errW_some] <;> rfl), by repeat (first | (with_reducible first | exact HB.out | apply below_alloc | apply pw_below_drewN | apply below_drew1 | refine below_set ?_ GE396.out | refine below_set ?_ GE397.out) | exact HB.out)⟩
              ·rw [if_neg c66] at H
               have c66b0 : (t410 == 0) = false := beq_eq_false_iff_ne.mpr c66
               have c66b1 : (t410 != 0) = true := bne_iff_ne.mpr c66
               simp only [Option.some.injEq, Prod.mk.injEq] at H
               obtain ⟨rfl, rfl, rfl, rfl, rfl, rfl⟩ := H
               go_wp2_with (first | ((with_reducible refine gate_callee (f := 20) rfl ?_); refine goesL_ (some 112) rfl rfl Try.func20 (by kernel_rfl) rfl #[.string (a0.extract ((ji60) : Int).toNat a0.size), .int .i64 167] rfl (by (try simp only [List.map_toArray, List.map_cons, List.map_nil]); first | done | (simp only [hji60]; rfl) | rfl | (simp only [List.length_drop, List.length_take]; rfl) | (refine congrArg (fun z_ => #[Value.int IntKind.i64 z_]) (?_ : Go.RowKit.wrap64 (IntKind.u8.wrap _) = _); rw [IntKind.wrap_u8]; unfold Go.RowKit.wrap64; omega)) ?_; (with_reducible refine (horologeref16_ParseClock.calls kj16 (a0.extract ((ji60) : Int).toNat a0.size) 167 t408 t409 _ A63.out).mono ?_); rintro e w73 ⟨rfl, hb⟩; refine ⟨_, rfl, ?_⟩; have n0_ := Aside0.mk (blk_below (g := gb396) (o := .cells #[.int .i64 0, .int .i64 0, .int .i64 0, .int .i64 0, .int .i64 0] 30 (0, 0)) (by (with_reducible repeat (first | refine blk_drewN ?_ _ | refine blk_drew ?_ | refine blk_alloc ?_ _)); exact BK396.out) hb); have n1_ := Aside0.mk (blk_below (g := gb397) (o := .cells #[.int .i64 x398000_16, .int .i64 x398001_16, .int .i64 x398002_16, .int .i64 x398003_16, .int .i64 7200] 30 (0, 0)) (by (with_reducible repeat (first | refine blk_drewN ?_ _ | refine blk_drew ?_ | refine blk_alloc ?_ _)); exact BK397.out) hb); have n2_ := Aside0.mk (below_step (by repeat (first | (with_reducible first | exact HB.out | apply below_alloc | apply pw_below_drewN | apply below_drew1 | refine below_set ?_ GE396.out | refine below_set ?_ GE397.out) | exact HB.out)) hb); clear BK396; clear BK397; clear HB; have BK396 := n0_; have BK397 := n1_; have HB := n2_; clear n0_ n1_ n2_; (try clear hb); (try clear hb2); (try clear hk); (try clear hi); have hnb74 := NB397_396.out; have hnc74 := NB396_397.out; have hcz75_0 : w73.cell? ⟨gb397, 0, none⟩ = some (.int .i64 x398000_16) := (blk_cell BK397.out 0).trans rfl; have hcz75_1 : w73.cell? ⟨gb397, 1, none⟩ = some (.int .i64 x398001_16) := (blk_cell BK397.out 1).trans rfl; have hcz75_2 : w73.cell? ⟨gb397, 2, none⟩ = some (.int .i64 x398002_16) := (blk_cell BK397.out 2).trans rfl; have hcz75_3 : w73.cell? ⟨gb397, 3, none⟩ = some (.int .i64 x398003_16) := (blk_cell BK397.out 3).trans rfl; have hcz75_4 : w73.cell? ⟨gb397, 4, none⟩ = some (.int .i64 7200) := (blk_cell BK397.out 4).trans rfl; have hfz75_0 := blk_frozen BK397.out 0; have hfz75_1 := blk_frozen BK397.out 1; have hfz75_2 := blk_frozen BK397.out 2; have hfz75_3 := blk_frozen BK397.out 3; have hfz75_4 := blk_frozen BK397.out 4) | ((with_reducible refine gate_callee (f := 11) rfl ?_); refine goesL_ (some 122) rfl rfl Try.func11 (by kernel_rfl) rfl #[.agg #[.int .i64 x398000_16, .int .i64 x398001_16, .int .i64 x398002_16, .int .i64 x398003_16, .int .i64 t408]] rfl (by (try simp only [List.map_toArray, List.map_cons, List.map_nil]); first | done | rfl | (simp only [List.length_drop, List.length_take]; rfl) | (refine congrArg (fun z_ => #[Value.int IntKind.i64 z_]) (?_ : Go.RowKit.wrap64 (IntKind.u8.wrap _) = _); rw [IntKind.wrap_u8]; unfold Go.RowKit.wrap64; omega)) ?_; (with_reducible refine (horologeref16_Check.calls kj16 x398000_16 x398001_16 x398002_16 x398003_16 t408 t410 _ A65.out).mono ?_); rintro e w76 ⟨rfl, hb⟩; refine ⟨_, rfl, ?_⟩; have n0_ := Aside0.mk (blk_below (g := gb396) (o := .cells #[.int .i64 0, .int .i64 0, .int .i64 0, .int .i64 0, .int .i64 0] 30 (0, 0)) (by (with_reducible repeat (first | refine blk_drewN ?_ _ | refine blk_drew ?_ | refine blk_alloc ?_ _)); refine blk_far ?_ NB396_397.out _; (with_reducible repeat (first | refine blk_drewN ?_ _ | refine blk_drew ?_ | refine blk_alloc ?_ _)); exact BK396.out) hb); have n1_ := Aside0.mk (blk_below (g := gb397) (o := .cells #[.int .i64 x398000_16, .int .i64 x398001_16, .int .i64 x398002_16, .int .i64 x398003_16, .int .i64 t408] 30 (0, 0)) (by (with_reducible repeat (first | refine blk_drewN ?_ _ | refine blk_drew ?_ | refine blk_alloc ?_ _)); refine blk_put (cs := #[.int .i64 x398000_16, .int .i64 x398001_16, .int .i64 x398002_16, .int .i64 x398003_16, .int .i64 7200]) ?_ 4 _ rfl; (with_reducible repeat (first | refine blk_drewN ?_ _ | refine blk_drew ?_ | refine blk_alloc ?_ _)); exact BK397.out) hb); have n2_ := Aside0.mk (below_step (by repeat (first | (with_reducible first | exact HB.out | apply below_alloc | apply pw_below_drewN | apply below_drew1 | refine below_set ?_ GE396.out | refine below_set ?_ GE397.out) | exact HB.out)) hb); clear BK396; clear BK397; clear HB; have BK396 := n0_; have BK397 := n1_; have HB := n2_; clear n0_ n1_ n2_; (try clear hb); (try clear hb2); (try clear hk); (try clear hi); have hcz77_0 : w76.cell? ⟨gb396, 0, none⟩ = some (.int .i64 0) := (blk_cell BK396.out 0).trans rfl; have hcz77_1 : w76.cell? ⟨gb396, 1, none⟩ = some (.int .i64 0) := (blk_cell BK396.out 1).trans rfl; have hcz77_2 : w76.cell? ⟨gb396, 2, none⟩ = some (.int .i64 0) := (blk_cell BK396.out 2).trans rfl; have hcz77_3 : w76.cell? ⟨gb396, 3, none⟩ = some (.int .i64 0) := (blk_cell BK396.out 3).trans rfl; have hcz77_4 : w76.cell? ⟨gb396, 4, none⟩ = some (.int .i64 0) := (blk_cell BK396.out 4).trans rfl; have hfz77_0 := blk_frozen BK396.out 0; have hfz77_1 := blk_frozen BK396.out 1; have hfz77_2 := blk_frozen BK396.out 2; have hfz77_3 := blk_frozen BK396.out 3; have hfz77_4 := blk_frozen BK396.out 4))
               refine bodyPost_ret (results_ct rfl _ _ gb396 30 #[.int .i64 0, .int .i64 0, .int .i64 0, .int .i64 0, .int .i64 0] (0, 0) _ rfl (by (with_reducible repeat (first | refine blk_drewN ?_ _ | refine blk_drew ?_ | refine blk_alloc ?_ _)); refine blk_put (cs := #[.int .i64 0, .int .i64 0, .int .i64 0, .int .i64 0, .int .i64 0]) ?_ 4 _ rfl; (with_reducible repeat (first | refine blk_drewN ?_ _ | refine blk_drew ?_ | refine blk_alloc ?_ _)); refine blk_put (cs := #[.int .i64 0, .int .i64 0, .int .i64 0, .int .i64 0, .int .i64 0]) ?_ 3 _ rfl; (with_reducible repeat (first | refine blk_drewN ?_ _ | refine blk_drew ?_ | refine blk_alloc ?_ _)); refine blk_put (cs := #[.int .i64 0, .int .i64 0, .int .i64 0, .int .i64 0, .int .i64 0]) ?_ 2 _ rfl; (with_reducible repeat (first | refine blk_drewN ?_ _ | refine blk_drew ?_ | refine blk_alloc ?_ _)); refine blk_put (cs := #[.int .i64 0, .int .i64 0, .int .i64 0, .int .i64 0, .int .i64 0]) ?_ 1 _ rfl; (with_reducible repeat (first | refine blk_drewN ?_ _ | refine blk_drew ?_ | refine blk_alloc ?_ _)); refine blk_put (cs := #[.int .i64 0, .int .i64 0, .int .i64 0, .int .i64 0, .int .i64 0]) ?_ 0 _ rfl; (with_reducible repeat (first | refine blk_drewN ?_ _ | refine blk_drew ?_ | refine blk_alloc ?_ _)); exact BK396.out) Try.underlying30 rfl (by kernel_rfl)) rfl ?_
               exact ⟨by first | rfl | (simp [errW_none, errW_some] <;> rfl) | (simp only [← hji60]; first | rfl | (simp [errW_none, errW_some] <;> rfl)) | (simp [*, errW_none, errW_some] <;> rfl), by repeat (first | (with_reducible first | exact HB.out | apply below_alloc | apply pw_below_drewN | apply below_drew1 | refine below_set ?_ GE396.out | refine below_set ?_ GE397.out) | exact HB.out)⟩
             ·rw [if_neg c64] at H
              have c64b0 : (t409 == 0) = false := beq_eq_false_iff_ne.mpr c64
              have c64b1 : (t409 != 0) = true := bne_iff_ne.mpr c64
              simp only [Option.some.injEq, Prod.mk.injEq] at H
              obtain ⟨rfl, rfl, rfl, rfl, rfl, rfl⟩ := H
              go_wp2_with (first | ((with_reducible refine gate_callee (f := 20) rfl ?_); refine goesL_ (some 112) rfl rfl Try.func20 (by kernel_rfl) rfl #[.string (a0.extract ((ji60) : Int).toNat a0.size), .int .i64 167] rfl (by (try simp only [List.map_toArray, List.map_cons, List.map_nil]); first | done | (simp only [hji60]; rfl) | rfl | (simp only [List.length_drop, List.length_take]; rfl) | (refine congrArg (fun z_ => #[Value.int IntKind.i64 z_]) (?_ : Go.RowKit.wrap64 (IntKind.u8.wrap _) = _); rw [IntKind.wrap_u8]; unfold Go.RowKit.wrap64; omega)) ?_; (with_reducible refine (horologeref16_ParseClock.calls kj16 (a0.extract ((ji60) : Int).toNat a0.size) 167 t408 t409 _ A63.out).mono ?_); rintro e w78 ⟨rfl, hb⟩; refine ⟨_, rfl, ?_⟩; have n0_ := Aside0.mk (blk_below (g := gb396) (o := .cells #[.int .i64 0, .int .i64 0, .int .i64 0, .int .i64 0, .int .i64 0] 30 (0, 0)) (by (with_reducible repeat (first | refine blk_drewN ?_ _ | refine blk_drew ?_ | refine blk_alloc ?_ _)); exact BK396.out) hb); have n1_ := Aside0.mk (blk_below (g := gb397) (o := .cells #[.int .i64 x398000_16, .int .i64 x398001_16, .int .i64 x398002_16, .int .i64 x398003_16, .int .i64 7200] 30 (0, 0)) (by (with_reducible repeat (first | refine blk_drewN ?_ _ | refine blk_drew ?_ | refine blk_alloc ?_ _)); exact BK397.out) hb); have n2_ := Aside0.mk (below_step (by repeat (first | (with_reducible first | exact HB.out | apply below_alloc | apply pw_below_drewN | apply below_drew1 | refine below_set ?_ GE396.out | refine below_set ?_ GE397.out) | exact HB.out)) hb); clear BK396; clear BK397; clear HB; have BK396 := n0_; have BK397 := n1_; have HB := n2_; clear n0_ n1_ n2_; (try clear hb); (try clear hb2); (try clear hk); (try clear hi); have hnb79 := NB396_397.out; have hnc79 := NB397_396.out; have hcz80_0 : w78.cell? ⟨gb396, 0, none⟩ = some (.int .i64 0) := (blk_cell BK396.out 0).trans rfl; have hcz80_1 : w78.cell? ⟨gb396, 1, none⟩ = some (.int .i64 0) := (blk_cell BK396.out 1).trans rfl; have hcz80_2 : w78.cell? ⟨gb396, 2, none⟩ = some (.int .i64 0) := (blk_cell BK396.out 2).trans rfl; have hcz80_3 : w78.cell? ⟨gb396, 3, none⟩ = some (.int .i64 0) := (blk_cell BK396.out 3).trans rfl; have hcz80_4 : w78.cell? ⟨gb396, 4, none⟩ = some (.int .i64 0) := (blk_cell BK396.out 4).trans rfl; have hfz80_0 := blk_frozen BK396.out 0; have hfz80_1 := blk_frozen BK396.out 1; have hfz80_2 := blk_frozen BK396.out 2; have hfz80_3 := blk_frozen BK396.out 3; have hfz80_4 := blk_frozen BK396.out 4))
              refine bodyPost_ret (results_ct rfl _ _ gb396 30 #[.int .i64 0, .int .i64 0, .int .i64 0, .int .i64 0, .int .i64 0] (0, 0) _ rfl (by (with_reducible repeat (first | refine blk_drewN ?_ _ | refine blk_drew ?_ | refine blk_alloc ?_ _)); refine blk_put (cs := #[.int .i64 0, .int .i64 0, .int .i64 0, .int .i64 0, .int .i64 0]) ?_ 4 _ rfl; (with_reducible repeat (first | refine blk_drewN ?_ _ | refine blk_drew ?_ | refine blk_alloc ?_ _)); refine blk_put (cs := #[.int .i64 0, .int .i64 0, .int .i64 0, .int .i64 0, .int .i64 0]) ?_ 3 _ rfl; (with_reducible repeat (first | refine blk_drewN ?_ _ | refine blk_drew ?_ | refine blk_alloc ?_ _)); refine blk_put (cs := #[.int .i64 0, .int .i64 0, .int .i64 0, .int .i64 0, .int .i64 0]) ?_ 2 _ rfl; (with_reducible repeat (first | refine blk_drewN ?_ _ | refine blk_drew ?_ | refine blk_alloc ?_ _)); refine blk_put (cs := #[.int .i64 0, .int .i64 0, .int .i64 0, .int .i64 0, .int .i64 0]) ?_ 1 _ rfl; (with_reducible repeat (first | refine blk_drewN ?_ _ | refine blk_drew ?_ | refine blk_alloc ?_ _)); refine blk_put (cs := #[.int .i64 0, .int .i64 0, .int .i64 0, .int .i64 0, .int .i64 0]) ?_ 0 _ rfl; (with_reducible repeat (first | refine blk_drewN ?_ _ | refine blk_drew ?_ | refine blk_alloc ?_ _)); exact BK396.out) Try.underlying30 rfl (by kernel_rfl)) rfl ?_
              exact ⟨by first | rfl | (simp [errW_none, errW_some] <;> rfl) | (simp only [← hji60]; first | rfl | (simp [errW_none, errW_some] <;> rfl)) | (simp [*, errW_none, errW_some] <;> rfl), by repeat (first | (with_reducible first | exact HB.out | apply below_alloc | apply pw_below_drewN | apply below_drew1 | refine below_set ?_ GE396.out | refine below_set ?_ GE397.out) | exact HB.out)⟩
            ·rw [if_neg c62] at H
             exact absurd H (by simp)
           ·rw [if_neg c61] at H
            exact absurd H (by simp)
          ·rw [if_neg c59] at H
           have c59b0 : decide (x4_1 < (a0.size : Int)) = false := decide_eq_false c59
           clear c59
           replace H := Option.bind_eq_some_iff.mp H
           obtain ⟨t411, A810, H⟩ := H
           replace H : (if t411 = 0 then (some (x398000_16, x398001_16, x398002_16, x398003_16, 7200, 0)) else (some (0, 0, 0, 0, 0, t411))) = some (r1, r2, r3, r4, r5, r6) := H
           have A81 := Aside0.mk A810
           clear A810
           by_cases c82 : t411 = 0
           ·rw [if_pos c82] at H
            have c82b0 : (t411 == 0) = true := beq_iff_eq.mpr c82
            have c82b1 : (t411 != 0) = false := bne_eq_false_iff_eq.mpr c82
            clear c82
            simp only [Option.some.injEq, Prod.mk.injEq] at H
            obtain ⟨rfl, rfl, rfl, rfl, rfl, rfl⟩ := H
            have hnb83 := NB397_396.out
            have hnc83 := NB396_397.out
            have hcz84_0 : wc.cell? ⟨gb397, 0, none⟩ = some (.int .i64 x398000_16) := (blk_cell BK397.out 0).trans rfl
            have hcz84_1 : wc.cell? ⟨gb397, 1, none⟩ = some (.int .i64 x398001_16) := (blk_cell BK397.out 1).trans rfl
            have hcz84_2 : wc.cell? ⟨gb397, 2, none⟩ = some (.int .i64 x398002_16) := (blk_cell BK397.out 2).trans rfl
            have hcz84_3 : wc.cell? ⟨gb397, 3, none⟩ = some (.int .i64 x398003_16) := (blk_cell BK397.out 3).trans rfl
            have hcz84_4 : wc.cell? ⟨gb397, 4, none⟩ = some (.int .i64 7200) := (blk_cell BK397.out 4).trans rfl
            have hfz84_0 := blk_frozen BK397.out 0
            have hfz84_1 := blk_frozen BK397.out 1
            have hfz84_2 := blk_frozen BK397.out 2
            have hfz84_3 := blk_frozen BK397.out 3
            have hfz84_4 := blk_frozen BK397.out 4
            go_wp2_with (first | ((with_reducible refine gate_callee (f := 11) rfl ?_); refine goesL_ (some 122) rfl rfl Try.func11 (by kernel_rfl) rfl #[.agg #[.int .i64 x398000_16, .int .i64 x398001_16, .int .i64 x398002_16, .int .i64 x398003_16, .int .i64 7200]] rfl (by (try simp only [List.map_toArray, List.map_cons, List.map_nil]); first | done | rfl | (simp only [List.length_drop, List.length_take]; rfl) | (refine congrArg (fun z_ => #[Value.int IntKind.i64 z_]) (?_ : Go.RowKit.wrap64 (IntKind.u8.wrap _) = _); rw [IntKind.wrap_u8]; unfold Go.RowKit.wrap64; omega)) ?_; (with_reducible refine (horologeref16_Check.calls kj16 x398000_16 x398001_16 x398002_16 x398003_16 7200 t411 _ A81.out).mono ?_); rintro e w85 ⟨rfl, hb⟩; refine ⟨_, rfl, ?_⟩; have n0_ := Aside0.mk (blk_below (g := gb396) (o := .cells #[.int .i64 0, .int .i64 0, .int .i64 0, .int .i64 0, .int .i64 0] 30 (0, 0)) (by (with_reducible repeat (first | refine blk_drewN ?_ _ | refine blk_drew ?_ | refine blk_alloc ?_ _)); exact BK396.out) hb); have n1_ := Aside0.mk (blk_below (g := gb397) (o := .cells #[.int .i64 x398000_16, .int .i64 x398001_16, .int .i64 x398002_16, .int .i64 x398003_16, .int .i64 7200] 30 (0, 0)) (by (with_reducible repeat (first | refine blk_drewN ?_ _ | refine blk_drew ?_ | refine blk_alloc ?_ _)); exact BK397.out) hb); have n2_ := Aside0.mk (below_step (by repeat (first | (with_reducible first | exact HB.out | apply below_alloc | apply pw_below_drewN | apply below_drew1 | refine below_set ?_ GE396.out | refine below_set ?_ GE397.out) | exact HB.out)) hb); clear BK396; clear BK397; clear HB; have BK396 := n0_; have BK397 := n1_; have HB := n2_; clear n0_ n1_ n2_; (try clear hb); (try clear hb2); (try clear hk); (try clear hi); have hcz86_0 : w85.cell? ⟨gb397, 0, none⟩ = some (.int .i64 x398000_16) := (blk_cell BK397.out 0).trans rfl; have hcz86_1 : w85.cell? ⟨gb397, 1, none⟩ = some (.int .i64 x398001_16) := (blk_cell BK397.out 1).trans rfl; have hcz86_2 : w85.cell? ⟨gb397, 2, none⟩ = some (.int .i64 x398002_16) := (blk_cell BK397.out 2).trans rfl; have hcz86_3 : w85.cell? ⟨gb397, 3, none⟩ = some (.int .i64 x398003_16) := (blk_cell BK397.out 3).trans rfl; have hcz86_4 : w85.cell? ⟨gb397, 4, none⟩ = some (.int .i64 7200) := (blk_cell BK397.out 4).trans rfl; have hfz86_0 := blk_frozen BK397.out 0; have hfz86_1 := blk_frozen BK397.out 1; have hfz86_2 := blk_frozen BK397.out 2; have hfz86_3 := blk_frozen BK397.out 3; have hfz86_4 := blk_frozen BK397.out 4; have hcz87_0 : w85.cell? ⟨gb396, 0, none⟩ = some (.int .i64 0) := (blk_cell BK396.out 0).trans rfl; have hcz87_1 : w85.cell? ⟨gb396, 1, none⟩ = some (.int .i64 0) := (blk_cell BK396.out 1).trans rfl; have hcz87_2 : w85.cell? ⟨gb396, 2, none⟩ = some (.int .i64 0) := (blk_cell BK396.out 2).trans rfl; have hcz87_3 : w85.cell? ⟨gb396, 3, none⟩ = some (.int .i64 0) := (blk_cell BK396.out 3).trans rfl; have hcz87_4 : w85.cell? ⟨gb396, 4, none⟩ = some (.int .i64 0) := (blk_cell BK396.out 4).trans rfl; have hfz87_0 := blk_frozen BK396.out 0; have hfz87_1 := blk_frozen BK396.out 1; have hfz87_2 := blk_frozen BK396.out 2; have hfz87_3 := blk_frozen BK396.out 3; have hfz87_4 := blk_frozen BK396.out 4))
            refine bodyPost_ret (results_ct rfl _ _ gb396 30 #[.int .i64 x398000_16, .int .i64 x398001_16, .int .i64 x398002_16, .int .i64 x398003_16, .int .i64 7200] (0, 0) _ rfl (by (with_reducible repeat (first | refine blk_drewN ?_ _ | refine blk_drew ?_ | refine blk_alloc ?_ _)); refine blk_put (cs := #[.int .i64 x398000_16, .int .i64 x398001_16, .int .i64 x398002_16, .int .i64 x398003_16, .int .i64 0]) ?_ 4 _ rfl; (with_reducible repeat (first | refine blk_drewN ?_ _ | refine blk_drew ?_ | refine blk_alloc ?_ _)); refine blk_put (cs := #[.int .i64 x398000_16, .int .i64 x398001_16, .int .i64 x398002_16, .int .i64 0, .int .i64 0]) ?_ 3 _ rfl; (with_reducible repeat (first | refine blk_drewN ?_ _ | refine blk_drew ?_ | refine blk_alloc ?_ _)); refine blk_put (cs := #[.int .i64 x398000_16, .int .i64 x398001_16, .int .i64 0, .int .i64 0, .int .i64 0]) ?_ 2 _ rfl; (with_reducible repeat (first | refine blk_drewN ?_ _ | refine blk_drew ?_ | refine blk_alloc ?_ _)); refine blk_put (cs := #[.int .i64 x398000_16, .int .i64 0, .int .i64 0, .int .i64 0, .int .i64 0]) ?_ 1 _ rfl; (with_reducible repeat (first | refine blk_drewN ?_ _ | refine blk_drew ?_ | refine blk_alloc ?_ _)); refine blk_put (cs := #[.int .i64 0, .int .i64 0, .int .i64 0, .int .i64 0, .int .i64 0]) ?_ 0 _ rfl; (with_reducible repeat (first | refine blk_drewN ?_ _ | refine blk_drew ?_ | refine blk_alloc ?_ _)); exact BK396.out) Try.underlying30 rfl (by kernel_rfl)) rfl ?_
            exact ⟨by first | rfl | (simp [errW_none, errW_some] <;> rfl) | (simp [*, errW_none, errW_some] <;> rfl), by repeat (first | (with_reducible first | exact HB.out | apply below_alloc | apply pw_below_drewN | apply below_drew1 | refine below_set ?_ GE396.out | refine below_set ?_ GE397.out) | exact HB.out)⟩
           ·rw [if_neg c82] at H
            have c82b0 : (t411 == 0) = false := beq_eq_false_iff_ne.mpr c82
            have c82b1 : (t411 != 0) = true := bne_iff_ne.mpr c82
            simp only [Option.some.injEq, Prod.mk.injEq] at H
            obtain ⟨rfl, rfl, rfl, rfl, rfl, rfl⟩ := H
            have hnb88 := NB397_396.out
            have hnc88 := NB396_397.out
            have hcz89_0 : wc.cell? ⟨gb397, 0, none⟩ = some (.int .i64 x398000_16) := (blk_cell BK397.out 0).trans rfl
            have hcz89_1 : wc.cell? ⟨gb397, 1, none⟩ = some (.int .i64 x398001_16) := (blk_cell BK397.out 1).trans rfl
            have hcz89_2 : wc.cell? ⟨gb397, 2, none⟩ = some (.int .i64 x398002_16) := (blk_cell BK397.out 2).trans rfl
            have hcz89_3 : wc.cell? ⟨gb397, 3, none⟩ = some (.int .i64 x398003_16) := (blk_cell BK397.out 3).trans rfl
            have hcz89_4 : wc.cell? ⟨gb397, 4, none⟩ = some (.int .i64 7200) := (blk_cell BK397.out 4).trans rfl
            have hfz89_0 := blk_frozen BK397.out 0
            have hfz89_1 := blk_frozen BK397.out 1
            have hfz89_2 := blk_frozen BK397.out 2
            have hfz89_3 := blk_frozen BK397.out 3
            have hfz89_4 := blk_frozen BK397.out 4
            go_wp2_with (first | ((with_reducible refine gate_callee (f := 11) rfl ?_); refine goesL_ (some 122) rfl rfl Try.func11 (by kernel_rfl) rfl #[.agg #[.int .i64 x398000_16, .int .i64 x398001_16, .int .i64 x398002_16, .int .i64 x398003_16, .int .i64 7200]] rfl (by (try simp only [List.map_toArray, List.map_cons, List.map_nil]); first | done | rfl | (simp only [List.length_drop, List.length_take]; rfl) | (refine congrArg (fun z_ => #[Value.int IntKind.i64 z_]) (?_ : Go.RowKit.wrap64 (IntKind.u8.wrap _) = _); rw [IntKind.wrap_u8]; unfold Go.RowKit.wrap64; omega)) ?_; (with_reducible refine (horologeref16_Check.calls kj16 x398000_16 x398001_16 x398002_16 x398003_16 7200 t411 _ A81.out).mono ?_); rintro e w90 ⟨rfl, hb⟩; refine ⟨_, rfl, ?_⟩; have n0_ := Aside0.mk (blk_below (g := gb396) (o := .cells #[.int .i64 0, .int .i64 0, .int .i64 0, .int .i64 0, .int .i64 0] 30 (0, 0)) (by (with_reducible repeat (first | refine blk_drewN ?_ _ | refine blk_drew ?_ | refine blk_alloc ?_ _)); exact BK396.out) hb); have n1_ := Aside0.mk (blk_below (g := gb397) (o := .cells #[.int .i64 x398000_16, .int .i64 x398001_16, .int .i64 x398002_16, .int .i64 x398003_16, .int .i64 7200] 30 (0, 0)) (by (with_reducible repeat (first | refine blk_drewN ?_ _ | refine blk_drew ?_ | refine blk_alloc ?_ _)); exact BK397.out) hb); have n2_ := Aside0.mk (below_step (by repeat (first | (with_reducible first | exact HB.out | apply below_alloc | apply pw_below_drewN | apply below_drew1 | refine below_set ?_ GE396.out | refine below_set ?_ GE397.out) | exact HB.out)) hb); clear BK396; clear BK397; clear HB; have BK396 := n0_; have BK397 := n1_; have HB := n2_; clear n0_ n1_ n2_; (try clear hb); (try clear hb2); (try clear hk); (try clear hi); have hcz91_0 : w90.cell? ⟨gb396, 0, none⟩ = some (.int .i64 0) := (blk_cell BK396.out 0).trans rfl; have hcz91_1 : w90.cell? ⟨gb396, 1, none⟩ = some (.int .i64 0) := (blk_cell BK396.out 1).trans rfl; have hcz91_2 : w90.cell? ⟨gb396, 2, none⟩ = some (.int .i64 0) := (blk_cell BK396.out 2).trans rfl; have hcz91_3 : w90.cell? ⟨gb396, 3, none⟩ = some (.int .i64 0) := (blk_cell BK396.out 3).trans rfl; have hcz91_4 : w90.cell? ⟨gb396, 4, none⟩ = some (.int .i64 0) := (blk_cell BK396.out 4).trans rfl; have hfz91_0 := blk_frozen BK396.out 0; have hfz91_1 := blk_frozen BK396.out 1; have hfz91_2 := blk_frozen BK396.out 2; have hfz91_3 := blk_frozen BK396.out 3; have hfz91_4 := blk_frozen BK396.out 4))
            refine bodyPost_ret (results_ct rfl _ _ gb396 30 #[.int .i64 0, .int .i64 0, .int .i64 0, .int .i64 0, .int .i64 0] (0, 0) _ rfl (by (with_reducible repeat (first | refine blk_drewN ?_ _ | refine blk_drew ?_ | refine blk_alloc ?_ _)); refine blk_put (cs := #[.int .i64 0, .int .i64 0, .int .i64 0, .int .i64 0, .int .i64 0]) ?_ 4 _ rfl; (with_reducible repeat (first | refine blk_drewN ?_ _ | refine blk_drew ?_ | refine blk_alloc ?_ _)); refine blk_put (cs := #[.int .i64 0, .int .i64 0, .int .i64 0, .int .i64 0, .int .i64 0]) ?_ 3 _ rfl; (with_reducible repeat (first | refine blk_drewN ?_ _ | refine blk_drew ?_ | refine blk_alloc ?_ _)); refine blk_put (cs := #[.int .i64 0, .int .i64 0, .int .i64 0, .int .i64 0, .int .i64 0]) ?_ 2 _ rfl; (with_reducible repeat (first | refine blk_drewN ?_ _ | refine blk_drew ?_ | refine blk_alloc ?_ _)); refine blk_put (cs := #[.int .i64 0, .int .i64 0, .int .i64 0, .int .i64 0, .int .i64 0]) ?_ 1 _ rfl; (with_reducible repeat (first | refine blk_drewN ?_ _ | refine blk_drew ?_ | refine blk_alloc ?_ _)); refine blk_put (cs := #[.int .i64 0, .int .i64 0, .int .i64 0, .int .i64 0, .int .i64 0]) ?_ 0 _ rfl; (with_reducible repeat (first | refine blk_drewN ?_ _ | refine blk_drew ?_ | refine blk_alloc ?_ _)); exact BK396.out) Try.underlying30 rfl (by kernel_rfl)) rfl ?_
            exact ⟨by first | rfl | (simp [errW_none, errW_some] <;> rfl) | (simp [*, errW_none, errW_some] <;> rfl), by repeat (first | (with_reducible first | exact HB.out | apply below_alloc | apply pw_below_drewN | apply below_drew1 | refine below_set ?_ GE396.out | refine below_set ?_ GE397.out) | exact HB.out)⟩
         ·replace c58 := Bool.eq_false_iff.mpr c58
          subst c58
          have H1 : (some (0, 0, 0, 0, 0, 2)) = some (r1, r2, r3, r4, r5, r6) := by rw [if_neg (show ¬ (false = true) by decide)] at H; exact H
          clear H
          have H := H1
          clear H1
          simp only [Option.some.injEq, Prod.mk.injEq] at H
          obtain ⟨rfl, rfl, rfl, rfl, rfl, rfl⟩ := H
          have hnb92 := NB396_397.out
          have hnc92 := NB397_396.out
          have hcz93_0 : wc.cell? ⟨gb396, 0, none⟩ = some (.int .i64 0) := (blk_cell BK396.out 0).trans rfl
          have hcz93_1 : wc.cell? ⟨gb396, 1, none⟩ = some (.int .i64 0) := (blk_cell BK396.out 1).trans rfl
          have hcz93_2 : wc.cell? ⟨gb396, 2, none⟩ = some (.int .i64 0) := (blk_cell BK396.out 2).trans rfl
          have hcz93_3 : wc.cell? ⟨gb396, 3, none⟩ = some (.int .i64 0) := (blk_cell BK396.out 3).trans rfl
          have hcz93_4 : wc.cell? ⟨gb396, 4, none⟩ = some (.int .i64 0) := (blk_cell BK396.out 4).trans rfl
          have hfz93_0 := blk_frozen BK396.out 0
          have hfz93_1 := blk_frozen BK396.out 1
          have hfz93_2 := blk_frozen BK396.out 2
          have hfz93_3 := blk_frozen BK396.out 3
          have hfz93_4 := blk_frozen BK396.out 4
          go_wp2
          refine bodyPost_ret (results_ct rfl _ _ gb396 30 #[.int .i64 0, .int .i64 0, .int .i64 0, .int .i64 0, .int .i64 0] (0, 0) _ rfl (by (with_reducible repeat (first | refine blk_drewN ?_ _ | refine blk_drew ?_ | refine blk_alloc ?_ _)); refine blk_put (cs := #[.int .i64 0, .int .i64 0, .int .i64 0, .int .i64 0, .int .i64 0]) ?_ 4 _ rfl; (with_reducible repeat (first | refine blk_drewN ?_ _ | refine blk_drew ?_ | refine blk_alloc ?_ _)); refine blk_put (cs := #[.int .i64 0, .int .i64 0, .int .i64 0, .int .i64 0, .int .i64 0]) ?_ 3 _ rfl; (with_reducible repeat (first | refine blk_drewN ?_ _ | refine blk_drew ?_ | refine blk_alloc ?_ _)); refine blk_put (cs := #[.int .i64 0, .int .i64 0, .int .i64 0, .int .i64 0, .int .i64 0]) ?_ 2 _ rfl; (with_reducible repeat (first | refine blk_drewN ?_ _ | refine blk_drew ?_ | refine blk_alloc ?_ _)); refine blk_put (cs := #[.int .i64 0, .int .i64 0, .int .i64 0, .int .i64 0, .int .i64 0]) ?_ 1 _ rfl; (with_reducible repeat (first | refine blk_drewN ?_ _ | refine blk_drew ?_ | refine blk_alloc ?_ _)); refine blk_put (cs := #[.int .i64 0, .int .i64 0, .int .i64 0, .int .i64 0, .int .i64 0]) ?_ 0 _ rfl; (with_reducible repeat (first | refine blk_drewN ?_ _ | refine blk_drew ?_ | refine blk_alloc ?_ _)); exact BK396.out) Try.underlying30 rfl (by kernel_rfl)) rfl ?_
          exact ⟨by first | rfl | (simp [errW_none, errW_some] <;> rfl) | (simp [*, errW_none, errW_some] <;> rfl), by repeat (first | (with_reducible first | exact HB.out | apply below_alloc | apply pw_below_drewN | apply below_drew1 | refine below_set ?_ GE396.out | refine below_set ?_ GE397.out) | exact HB.out)⟩
    ·rw [if_neg c9] at H
     exact absurd H (by simp)
   ·rw [if_neg c8] at H
    exact absurd H (by simp)

end Go.Proofs.Ytnjeemghkpgcfaa.MRuleTexts
