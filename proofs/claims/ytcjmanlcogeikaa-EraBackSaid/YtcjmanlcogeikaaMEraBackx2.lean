-- This text was written by a program of this session (a changed scratch copy of a tool of the kit; NOTES.md tells the changes).
import Derived.Test.YtcjmanlcogeikaaMEraBackx0
import Derived.Test.YtcjmanlcogeikaaMEraBackx1
namespace Go.Proofs.Ytcjmanlcogeikaa.MEraBack
open Go.RowKit Go.Proofs.YtcjmanlcogeikaaW.PrintWords Go.Proofs.YtcjmanlcogeikaaW.PrintLast Go.Proofs.YtcjmanlcogeikaaW.PrintMore
attribute [local go_sem] max2_int min2_int max_two min_two max_three min_three max_four min_four   -- for this text's walks alone
set_option linter.unusedVariables false
set_option linter.unusedSimpArgs false

/-! ### horologelaw13_EraBack: function 5 -/
def horologelaw13_EraBack.j0 : Nat → Int → Int → Int → Int → Option Int → Bool → Option Int → Bool → Option (Bool)
  | 0, _, _, _, _, _, _, _, _ => none
  | k + 1, x0, x1, x2, x7, x8, x9, x10, x35 => if x35 = true then (if x2 < 1 then (if x8.isNone = true then (some false) else (if x10.isNone = true then (some false) else (some true))) else (if x2 > 62 then (if x8.isNone = true then (some false) else (if x10.isNone = true then (some false) else (some true))) else (some false))) else ((era_Bits.f k x7 x2 x1).bind fun bt134 => (if x9 = true then (if bt134.2.isNone = true then (some (bt134.1 == x0)) else (some false)) else (if bt134.2.isNone = true then ((era_Near.f bt134.1 x1 x2).bind fun bt138 => ((era_FoldBits.f bt134.1 x2).bind fun bt140 => (if bt138.2.isNone = true then (if bt140.2.isNone = true then (if bt138.1 = true then (if bt134.1 = x0 then (some false) else (some (bt140.1 == x7))) else (some false)) else (some false)) else (some false)))) else (if bt134.1 = 0 then ((horologenum_Is.f (some (bt134.2.getD 0)) 5).bind fun t144 => (some t144)) else (some false)))))
def horologelaw13_EraBack.f (k : Nat) (a0 : Int) (a1 : Int) (a2 : Int) : Option (Bool) := (horologelaw13_alive.f k).bind fun t123 => (if t123 = true then ((era_FoldBits.f a0 a2).bind fun bt124 => ((era_Near.f a0 a1 a2).bind fun bt126 => (if bt124.2.isNone = true then (if bt126.2.isNone = true then (horologelaw13_EraBack.j0 k a0 a1 a2 bt124.1 none bt126.1 none false) else (horologelaw13_EraBack.j0 k a0 a1 a2 bt124.1 none bt126.1 (some (bt126.2.getD 0)) true)) else (horologelaw13_EraBack.j0 k a0 a1 a2 bt124.1 (some (bt124.2.getD 0)) bt126.1 bt126.2 true)))) else (some false))
theorem horologelaw13_EraBack.mono_l : ∀ k, (∀ y0 y1 y2 y3 y4 y5 y6 y7, LeO (horologelaw13_EraBack.j0 k y0 y1 y2 y3 y4 y5 y6 y7) (horologelaw13_EraBack.j0 (k + 1) y0 y1 y2 y3 y4 y5 y6 y7))
  | 0 => fun _ _ _ _ _ _ _ _ r h => by simp [horologelaw13_EraBack.j0] at h
  | k + 1 => by
    have ih0 := horologelaw13_EraBack.mono_l k
    · intro y0 y1 y2 y3 y4 y5 y6 y7
      unfold horologelaw13_EraBack.j0
      repeat' first
      | (with_reducible exact ih0 _ _ _ _ _ _ _ _)
      | (with_reducible exact era_Bits.mono _ _ _ _)
      | (with_reducible exact horologelaw13_alive.mono _)
      | (with_reducible exact LeO.refl _)
      | (with_reducible exact LeO.none _)
      | (with_reducible refine LeO.ite ?_ ?_)
      | (with_reducible refine LeO.bind ?_ (fun _ => ?_))
      | exact ih0 _ _ _ _ _ _ _ _
      | exact era_Bits.mono _ _ _ _
      | exact horologelaw13_alive.mono _
      | exact LeO.none _
      | refine LeO.ite ?_ ?_
      | refine LeO.bind ?_ (fun _ => ?_)
theorem horologelaw13_EraBack.mono : ∀ a0 a1 a2 k, LeO (horologelaw13_EraBack.f k a0 a1 a2) (horologelaw13_EraBack.f (k + 1) a0 a1 a2) := by
  intro a0 a1 a2 k
  have ih0 := horologelaw13_EraBack.mono_l k
  unfold horologelaw13_EraBack.f
  repeat' first
      | (with_reducible exact ih0 _ _ _ _ _ _ _ _)
      | (with_reducible exact era_Bits.mono _ _ _ _)
      | (with_reducible exact horologelaw13_alive.mono _)
      | (with_reducible exact LeO.refl _)
      | (with_reducible exact LeO.none _)
      | (with_reducible refine LeO.ite ?_ ?_)
      | (with_reducible refine LeO.bind ?_ (fun _ => ?_))
      | exact ih0 _ _ _ _ _ _ _ _
      | exact era_Bits.mono _ _ _ _
      | exact horologelaw13_alive.mono _
      | exact LeO.none _
      | refine LeO.ite ?_ ?_
      | refine LeO.bind ?_ (fun _ => ?_)
set_option maxHeartbeats 8000000 in
set_option maxRecDepth 100000 in
theorem horologelaw13_EraBack.calls (k : Nat) (a0 : Int) (a1 : Int) (a2 : Int) (r : Bool) (w : World) (h : horologelaw13_EraBack.f k a0 a1 a2 = some r) :
    Calls Try.prog 5 #[.int .i64 a0, .int .i64 a1, .int .i64 a2] w fun e w' => e = .returned (.bool r) ∧ Drawn0 w w' := by
  have hu30 := Try.underlying30
  have hu47 := Try.underlying47
  have H : ((horologelaw13_alive.f k).bind fun t123 => (if t123 = true then ((era_FoldBits.f a0 a2).bind fun bt124 => ((era_Near.f a0 a1 a2).bind fun bt126 => (if bt124.2.isNone = true then (if bt126.2.isNone = true then (horologelaw13_EraBack.j0 k a0 a1 a2 bt124.1 none bt126.1 none false) else (horologelaw13_EraBack.j0 k a0 a1 a2 bt124.1 none bt126.1 (some (bt126.2.getD 0)) true)) else (horologelaw13_EraBack.j0 k a0 a1 a2 bt124.1 (some (bt124.2.getD 0)) bt126.1 bt126.2 true)))) else (some false))) = some r := h
  clear h
  replace H := Option.bind_eq_some_iff.mp H
  obtain ⟨t123, A40, H⟩ := H
  replace H : (if t123 = true then ((era_FoldBits.f a0 a2).bind fun bt124 => ((era_Near.f a0 a1 a2).bind fun bt126 => (if bt124.2.isNone = true then (if bt126.2.isNone = true then (horologelaw13_EraBack.j0 k a0 a1 a2 bt124.1 none bt126.1 none false) else (horologelaw13_EraBack.j0 k a0 a1 a2 bt124.1 none bt126.1 (some (bt126.2.getD 0)) true)) else (horologelaw13_EraBack.j0 k a0 a1 a2 bt124.1 (some (bt124.2.getD 0)) bt126.1 bt126.2 true)))) else (some false)) = some r := H
  have A4 := Aside0.mk A40
  clear A40
  by_cases c5 : t123 = true
  · subst c5
    have H1 : ((era_FoldBits.f a0 a2).bind fun bt124 => ((era_Near.f a0 a1 a2).bind fun bt126 => (if bt124.2.isNone = true then (if bt126.2.isNone = true then (horologelaw13_EraBack.j0 k a0 a1 a2 bt124.1 none bt126.1 none false) else (horologelaw13_EraBack.j0 k a0 a1 a2 bt124.1 none bt126.1 (some (bt126.2.getD 0)) true)) else (horologelaw13_EraBack.j0 k a0 a1 a2 bt124.1 (some (bt124.2.getD 0)) bt126.1 bt126.2 true)))) = some r := by rw [if_pos rfl] at H; exact H
    clear H
    have H := H1
    clear H1
    replace H := Option.bind_eq_some_iff.mp H
    obtain ⟨⟨t124, t125⟩, A60, H⟩ := H
    replace H : ((era_Near.f a0 a1 a2).bind fun bt126 => (if t125.isNone = true then (if bt126.2.isNone = true then (horologelaw13_EraBack.j0 k a0 a1 a2 t124 none bt126.1 none false) else (horologelaw13_EraBack.j0 k a0 a1 a2 t124 none bt126.1 (some (bt126.2.getD 0)) true)) else (horologelaw13_EraBack.j0 k a0 a1 a2 t124 (some (t125.getD 0)) bt126.1 bt126.2 true))) = some r := H
    have A6 := Aside0.mk A60
    clear A60
    replace H := Option.bind_eq_some_iff.mp H
    obtain ⟨⟨t126, t127⟩, A70, H⟩ := H
    replace H : (if t125.isNone = true then (if t127.isNone = true then (horologelaw13_EraBack.j0 k a0 a1 a2 t124 none t126 none false) else (horologelaw13_EraBack.j0 k a0 a1 a2 t124 none t126 (some (t127.getD 0)) true)) else (horologelaw13_EraBack.j0 k a0 a1 a2 t124 (some (t125.getD 0)) t126 t127 true)) = some r := H
    have A7 := Aside0.mk A70
    clear A70
    have HC8 := Aside0.mk H
    clear H
    go_enter Try.func5, Try.ntmps5
    go_upto_region 5 with (first | ((with_reducible refine gate_callee (f := 7) rfl ?_); refine goesL_ (some 15) rfl rfl Try.func7 (by kernel_rfl) rfl #[] rfl (by (try simp only [List.map_toArray, List.map_cons, List.map_nil]); first | done | rfl | (simp only [List.length_drop, List.length_take]; rfl)) ?_; (with_reducible refine (horologelaw13_alive.calls k  true _ A4.out).mono ?_); rintro e w' ⟨rfl, ⟨nd, rfl⟩⟩; refine ⟨_, rfl, ?_⟩) | ((with_reducible refine gate_callee (f := 17) rfl ?_); refine goesL_ (some 20) rfl rfl Try.func17 (by kernel_rfl) rfl #[.int .i64 a0, .int .i64 a2] rfl (by (try simp only [List.map_toArray, List.map_cons, List.map_nil]); first | done | rfl | (simp only [List.length_drop, List.length_take]; rfl)) ?_; (with_reducible refine (era_FoldBits.calls a0 a2 t124 t125 _ A6.out).mono ?_); rintro e w' ⟨rfl, ⟨nd, rfl⟩⟩; refine ⟨_, rfl, ?_⟩; (try simp only [errW_none, errW_some])) | ((with_reducible refine gate_callee (f := 18) rfl ?_); refine goesL_ (some 27) rfl rfl Try.func18 (by kernel_rfl) rfl #[.int .i64 a0, .int .i64 a1, .int .i64 a2] rfl (by (try simp only [List.map_toArray, List.map_cons, List.map_nil]); first | done | rfl | (simp only [List.length_drop, List.length_take]; rfl)) ?_; (with_reducible refine (era_Near.calls a0 a1 a2 t126 t127 _ A7.out).mono ?_); rintro e w' ⟨rfl, ⟨nd, rfl⟩⟩; refine ⟨_, rfl, ?_⟩; (try simp only [errW_none, errW_some])))
    (try simp only [Act.put, List.setIfInBounds_toArray, List.set_cons_zero, List.set_cons_succ])
    go_cut [35] (fun v35 wc => ∃ (kq : Nat) (x35_7 : Bool), v35 = .bool x35_7 ∧ Aside0 (horologelaw13_EraBack.j0 kq a0 a1 a2 t124 t125 t126 t127 x35_7 = some r) ∧ Aside0 (kq ≤ k) ∧ Drawn0 w wc)
    case first =>
      have H := HC8.out
      clear HC8
      rcases t125 with _ | q128
      · have H1 : (if t127.isNone = true then (horologelaw13_EraBack.j0 k a0 a1 a2 t124 none t126 none false) else (horologelaw13_EraBack.j0 k a0 a1 a2 t124 none t126 (some (t127.getD 0)) true)) = some r := by rw [if_pos (show (none : Option Int).isNone = true by rfl)] at H; exact H
        clear H
        have H := H1
        clear H1
        try simp only [errW_none, errW_some]
        rcases t127 with _ | q129
        · have H1 : (horologelaw13_EraBack.j0 k a0 a1 a2 t124 none t126 none false) = some r := by rw [if_pos (show (none : Option Int).isNone = true by rfl)] at H; exact H
          clear H
          have H := H1
          clear H1
          try simp only [errW_none, errW_some]
          have H' := Aside0.mk H
          clear H
          go_wp2
          go_meet
          case rel => exact ⟨_, (false), (by first | rfl | (simp; done) | (simp [*]; done)), H', ⟨by first | omega | exact Nat.le_refl _⟩, by repeat (first | exact Drawn0.refl _ | apply Drawn0.step)⟩
        · have H1 : (horologelaw13_EraBack.j0 k a0 a1 a2 t124 none t126 (some q129) true) = some r := by rw [if_neg (show ¬ (some q129).isNone = true by simp)] at H; exact H
          clear H
          have H := H1
          clear H1
          try simp only [errW_none, errW_some]
          have H' := Aside0.mk H
          clear H
          go_wp2
          go_meet
          case rel => exact ⟨_, (true), (by first | rfl | (simp; done) | (simp [*]; done)), H', ⟨by first | omega | exact Nat.le_refl _⟩, by repeat (first | exact Drawn0.refl _ | apply Drawn0.step)⟩
      · have H1 : (horologelaw13_EraBack.j0 k a0 a1 a2 t124 (some q128) t126 t127 true) = some r := by rw [if_neg (show ¬ (some q128).isNone = true by simp)] at H; exact H
        clear H
        have H := H1
        clear H1
        try simp only [errW_none, errW_some]
        have H' := Aside0.mk H
        clear H
        go_wp2
        go_meet
        case rel => exact ⟨_, (true), (by first | rfl | (simp; done) | (simp [*]; done)), H', ⟨by first | omega | exact Nat.le_refl _⟩, by repeat (first | exact Drawn0.refl _ | apply Drawn0.step)⟩
    case rest =>
      clear HC8
      try clear c1
      try clear q1
      try clear p2
      try clear c5
      try clear c7
      try clear q128
      try clear q129
      obtain ⟨kq, x35_7, rfl, HA, HJ7, ⟨mc7, rfl⟩⟩ := hcut
      cases kq with
      | zero => exact absurd HA.out (by simp [horologelaw13_EraBack.j0])
      | succ kj7 =>
        have H := HA.out
        clear HA
        simp only [horologelaw13_EraBack.j0] at H
        by_cases c9 : x35_7 = true
        · subst c9
          have H1 : (if a2 < 1 then (if t125.isNone = true then (some false) else (if t127.isNone = true then (some false) else (some true))) else (if a2 > 62 then (if t125.isNone = true then (some false) else (if t127.isNone = true then (some false) else (some true))) else (some false))) = some r := by rw [if_pos rfl] at H; exact H
          clear H
          have H := H1
          clear H1
          by_cases c10 : a2 < 1
          · rw [if_pos c10] at H
            have c10b0 : decide (a2 < 1) = true := decide_eq_true c10
            clear c10
            rcases t125 with _ | q130
            · have H1 : (some false) = some r := by rw [if_pos (show (none : Option Int).isNone = true by rfl)] at H; exact H
              clear H
              have H := H1
              clear H1
              try simp only [errW_none, errW_some]
              obtain rfl := Option.some.inj H
              go_wp2
              go_ret
              exact ⟨by first | rfl | (simp; done) | (simp [*]; done), by repeat (first | exact Drawn0.refl _ | apply Drawn0.step)⟩
            · have H1 : (if t127.isNone = true then (some false) else (some true)) = some r := by rw [if_neg (show ¬ (some q130).isNone = true by simp)] at H; exact H
              clear H
              have H := H1
              clear H1
              try simp only [errW_none, errW_some]
              rcases t127 with _ | q131
              · have H1 : (some false) = some r := by rw [if_pos (show (none : Option Int).isNone = true by rfl)] at H; exact H
                clear H
                have H := H1
                clear H1
                try simp only [errW_none, errW_some]
                obtain rfl := Option.some.inj H
                go_wp2
                go_ret
                exact ⟨by first | rfl | (simp; done) | (simp [*]; done), by repeat (first | exact Drawn0.refl _ | apply Drawn0.step)⟩
              · have H1 : (some true) = some r := by rw [if_neg (show ¬ (some q131).isNone = true by simp)] at H; exact H
                clear H
                have H := H1
                clear H1
                try simp only [errW_none, errW_some]
                obtain rfl := Option.some.inj H
                go_wp2
                go_ret
                exact ⟨by first | rfl | (simp; done) | (simp [*]; done), by repeat (first | exact Drawn0.refl _ | apply Drawn0.step)⟩
          · rw [if_neg c10] at H
            have c10b0 : decide (a2 < 1) = false := decide_eq_false c10
            clear c10
            by_cases c11 : a2 > 62
            · rw [if_pos c11] at H
              have c11b0 : decide (62 < a2) = true := decide_eq_true c11
              clear c11
              rcases t125 with _ | q132
              · have H1 : (some false) = some r := by rw [if_pos (show (none : Option Int).isNone = true by rfl)] at H; exact H
                clear H
                have H := H1
                clear H1
                try simp only [errW_none, errW_some]
                obtain rfl := Option.some.inj H
                go_wp2
                go_ret
                exact ⟨by first | rfl | (simp; done) | (simp [*]; done), by repeat (first | exact Drawn0.refl _ | apply Drawn0.step)⟩
              · have H1 : (if t127.isNone = true then (some false) else (some true)) = some r := by rw [if_neg (show ¬ (some q132).isNone = true by simp)] at H; exact H
                clear H
                have H := H1
                clear H1
                try simp only [errW_none, errW_some]
                rcases t127 with _ | q133
                · have H1 : (some false) = some r := by rw [if_pos (show (none : Option Int).isNone = true by rfl)] at H; exact H
                  clear H
                  have H := H1
                  clear H1
                  try simp only [errW_none, errW_some]
                  obtain rfl := Option.some.inj H
                  go_wp2
                  go_ret
                  exact ⟨by first | rfl | (simp; done) | (simp [*]; done), by repeat (first | exact Drawn0.refl _ | apply Drawn0.step)⟩
                · have H1 : (some true) = some r := by rw [if_neg (show ¬ (some q133).isNone = true by simp)] at H; exact H
                  clear H
                  have H := H1
                  clear H1
                  try simp only [errW_none, errW_some]
                  obtain rfl := Option.some.inj H
                  go_wp2
                  go_ret
                  exact ⟨by first | rfl | (simp; done) | (simp [*]; done), by repeat (first | exact Drawn0.refl _ | apply Drawn0.step)⟩
            · rw [if_neg c11] at H
              have c11b0 : decide (62 < a2) = false := decide_eq_false c11
              clear c11
              obtain rfl := Option.some.inj H
              go_wp2
              go_ret
              exact ⟨by first | rfl | (simp; done) | (simp [*]; done), by repeat (first | exact Drawn0.refl _ | apply Drawn0.step)⟩
        · replace c9 := Bool.eq_false_iff.mpr c9
          subst c9
          have H1 : ((era_Bits.f kj7 t124 a2 a1).bind fun bt134 => (if t126 = true then (if bt134.2.isNone = true then (some (bt134.1 == a0)) else (some false)) else (if bt134.2.isNone = true then ((era_Near.f bt134.1 a1 a2).bind fun bt138 => ((era_FoldBits.f bt134.1 a2).bind fun bt140 => (if bt138.2.isNone = true then (if bt140.2.isNone = true then (if bt138.1 = true then (if bt134.1 = a0 then (some false) else (some (bt140.1 == t124))) else (some false)) else (some false)) else (some false)))) else (if bt134.1 = 0 then ((horologenum_Is.f (some (bt134.2.getD 0)) 5).bind fun t144 => (some t144)) else (some false))))) = some r := by rw [if_neg (show ¬ (false = true) by decide)] at H; exact H
          clear H
          have H := H1
          clear H1
          replace H := Option.bind_eq_some_iff.mp H
          obtain ⟨⟨t134, t135⟩, A120, H⟩ := H
          replace H : (if t126 = true then (if t135.isNone = true then (some (t134 == a0)) else (some false)) else (if t135.isNone = true then ((era_Near.f t134 a1 a2).bind fun bt138 => ((era_FoldBits.f t134 a2).bind fun bt140 => (if bt138.2.isNone = true then (if bt140.2.isNone = true then (if bt138.1 = true then (if t134 = a0 then (some false) else (some (bt140.1 == t124))) else (some false)) else (some false)) else (some false)))) else (if t134 = 0 then ((horologenum_Is.f (some (t135.getD 0)) 5).bind fun t144 => (some t144)) else (some false)))) = some r := H
          have A12 := Aside0.mk A120
          clear A120
          by_cases c13 : t126 = true
          · subst c13
            have H1 : (if t135.isNone = true then (some (t134 == a0)) else (some false)) = some r := by rw [if_pos rfl] at H; exact H
            clear H
            have H := H1
            clear H1
            rcases t135 with _ | q136
            · have H1 : (some (t134 == a0)) = some r := by rw [if_pos (show (none : Option Int).isNone = true by rfl)] at H; exact H
              clear H
              have H := H1
              clear H1
              try simp only [errW_none, errW_some]
              obtain rfl := Option.some.inj H
              go_wp2_with (first | ((with_reducible refine gate_callee (f := 19) rfl ?_); refine goesL_ (some 54) rfl rfl Try.func19 (by kernel_rfl) rfl #[.int .u64 t124, .int .i64 a2, .int .i64 a1] rfl (by (try simp only [List.map_toArray, List.map_cons, List.map_nil]); first | done | rfl | (simp only [List.length_drop, List.length_take]; rfl)) ?_; (with_reducible refine (era_Bits.calls kj7 t124 a2 a1 t134 none _ A12.out).mono ?_); rintro e w' ⟨rfl, ⟨nd, rfl⟩⟩; refine ⟨_, rfl, ?_⟩; (try simp only [errW_none, errW_some])))
              go_ret
              exact ⟨by first | rfl | (simp; done) | (simp [*]; done), by repeat (first | exact Drawn0.refl _ | apply Drawn0.step)⟩
            · have H1 : (some false) = some r := by rw [if_neg (show ¬ (some q136).isNone = true by simp)] at H; exact H
              clear H
              have H := H1
              clear H1
              try simp only [errW_none, errW_some]
              obtain rfl := Option.some.inj H
              go_wp2_with (first | ((with_reducible refine gate_callee (f := 19) rfl ?_); refine goesL_ (some 54) rfl rfl Try.func19 (by kernel_rfl) rfl #[.int .u64 t124, .int .i64 a2, .int .i64 a1] rfl (by (try simp only [List.map_toArray, List.map_cons, List.map_nil]); first | done | rfl | (simp only [List.length_drop, List.length_take]; rfl)) ?_; (with_reducible refine (era_Bits.calls kj7 t124 a2 a1 t134 (some q136) _ A12.out).mono ?_); rintro e w' ⟨rfl, ⟨nd, rfl⟩⟩; refine ⟨_, rfl, ?_⟩; (try simp only [errW_none, errW_some])))
              go_ret
              exact ⟨by first | rfl | (simp; done) | (simp [*]; done), by repeat (first | exact Drawn0.refl _ | apply Drawn0.step)⟩
          · replace c13 := Bool.eq_false_iff.mpr c13
            subst c13
            have H1 : (if t135.isNone = true then ((era_Near.f t134 a1 a2).bind fun bt138 => ((era_FoldBits.f t134 a2).bind fun bt140 => (if bt138.2.isNone = true then (if bt140.2.isNone = true then (if bt138.1 = true then (if t134 = a0 then (some false) else (some (bt140.1 == t124))) else (some false)) else (some false)) else (some false)))) else (if t134 = 0 then ((horologenum_Is.f (some (t135.getD 0)) 5).bind fun t144 => (some t144)) else (some false))) = some r := by rw [if_neg (show ¬ (false = true) by decide)] at H; exact H
            clear H
            have H := H1
            clear H1
            rcases t135 with _ | q137
            · have H1 : ((era_Near.f t134 a1 a2).bind fun bt138 => ((era_FoldBits.f t134 a2).bind fun bt140 => (if bt138.2.isNone = true then (if bt140.2.isNone = true then (if bt138.1 = true then (if t134 = a0 then (some false) else (some (bt140.1 == t124))) else (some false)) else (some false)) else (some false)))) = some r := by rw [if_pos (show (none : Option Int).isNone = true by rfl)] at H; exact H
              clear H
              have H := H1
              clear H1
              try simp only [errW_none, errW_some]
              replace H := Option.bind_eq_some_iff.mp H
              obtain ⟨⟨t138, t139⟩, A140, H⟩ := H
              replace H : ((era_FoldBits.f t134 a2).bind fun bt140 => (if t139.isNone = true then (if bt140.2.isNone = true then (if t138 = true then (if t134 = a0 then (some false) else (some (bt140.1 == t124))) else (some false)) else (some false)) else (some false))) = some r := H
              have A14 := Aside0.mk A140
              clear A140
              replace H := Option.bind_eq_some_iff.mp H
              obtain ⟨⟨t140, t141⟩, A150, H⟩ := H
              replace H : (if t139.isNone = true then (if t141.isNone = true then (if t138 = true then (if t134 = a0 then (some false) else (some (t140 == t124))) else (some false)) else (some false)) else (some false)) = some r := H
              have A15 := Aside0.mk A150
              clear A150
              rcases t139 with _ | q142
              · have H1 : (if t141.isNone = true then (if t138 = true then (if t134 = a0 then (some false) else (some (t140 == t124))) else (some false)) else (some false)) = some r := by rw [if_pos (show (none : Option Int).isNone = true by rfl)] at H; exact H
                clear H
                have H := H1
                clear H1
                try simp only [errW_none, errW_some]
                rcases t141 with _ | q143
                · have H1 : (if t138 = true then (if t134 = a0 then (some false) else (some (t140 == t124))) else (some false)) = some r := by rw [if_pos (show (none : Option Int).isNone = true by rfl)] at H; exact H
                  clear H
                  have H := H1
                  clear H1
                  try simp only [errW_none, errW_some]
                  by_cases c16 : t138 = true
                  · subst c16
                    have H1 : (if t134 = a0 then (some false) else (some (t140 == t124))) = some r := by rw [if_pos rfl] at H; exact H
                    clear H
                    have H := H1
                    clear H1
                    by_cases c17 : t134 = a0
                    · rw [if_pos c17] at H
                      have c17b0 : (t134 == a0) = true := beq_iff_eq.mpr c17
                      have c17b1 : (t134 != a0) = false := bne_eq_false_iff_eq.mpr c17
                      clear c17
                      obtain rfl := Option.some.inj H
                      go_wp2_with (first | ((with_reducible refine gate_callee (f := 19) rfl ?_); refine goesL_ (some 54) rfl rfl Try.func19 (by kernel_rfl) rfl #[.int .u64 t124, .int .i64 a2, .int .i64 a1] rfl (by (try simp only [List.map_toArray, List.map_cons, List.map_nil]); first | done | rfl | (simp only [List.length_drop, List.length_take]; rfl)) ?_; (with_reducible refine (era_Bits.calls kj7 t124 a2 a1 t134 none _ A12.out).mono ?_); rintro e w' ⟨rfl, ⟨nd, rfl⟩⟩; refine ⟨_, rfl, ?_⟩; (try simp only [errW_none, errW_some])) | ((with_reducible refine gate_callee (f := 18) rfl ?_); refine goesL_ (some 77) rfl rfl Try.func18 (by kernel_rfl) rfl #[.int .i64 t134, .int .i64 a1, .int .i64 a2] rfl (by (try simp only [List.map_toArray, List.map_cons, List.map_nil]); first | done | rfl | (simp only [List.length_drop, List.length_take]; rfl)) ?_; (with_reducible refine (era_Near.calls t134 a1 a2 true none _ A14.out).mono ?_); rintro e w' ⟨rfl, ⟨nd, rfl⟩⟩; refine ⟨_, rfl, ?_⟩; (try simp only [errW_none, errW_some])) | ((with_reducible refine gate_callee (f := 17) rfl ?_); refine goesL_ (some 83) rfl rfl Try.func17 (by kernel_rfl) rfl #[.int .i64 t134, .int .i64 a2] rfl (by (try simp only [List.map_toArray, List.map_cons, List.map_nil]); first | done | rfl | (simp only [List.length_drop, List.length_take]; rfl)) ?_; (with_reducible refine (era_FoldBits.calls t134 a2 t140 none _ A15.out).mono ?_); rintro e w' ⟨rfl, ⟨nd, rfl⟩⟩; refine ⟨_, rfl, ?_⟩; (try simp only [errW_none, errW_some])))
                      go_ret
                      exact ⟨by first | rfl | (simp; done) | (simp [*]; done), by repeat (first | exact Drawn0.refl _ | apply Drawn0.step)⟩
                    · rw [if_neg c17] at H
                      have c17b0 : (t134 == a0) = false := beq_eq_false_iff_ne.mpr c17
                      have c17b1 : (t134 != a0) = true := bne_iff_ne.mpr c17
                      obtain rfl := Option.some.inj H
                      go_wp2_with (first | ((with_reducible refine gate_callee (f := 19) rfl ?_); refine goesL_ (some 54) rfl rfl Try.func19 (by kernel_rfl) rfl #[.int .u64 t124, .int .i64 a2, .int .i64 a1] rfl (by (try simp only [List.map_toArray, List.map_cons, List.map_nil]); first | done | rfl | (simp only [List.length_drop, List.length_take]; rfl)) ?_; (with_reducible refine (era_Bits.calls kj7 t124 a2 a1 t134 none _ A12.out).mono ?_); rintro e w' ⟨rfl, ⟨nd, rfl⟩⟩; refine ⟨_, rfl, ?_⟩; (try simp only [errW_none, errW_some])) | ((with_reducible refine gate_callee (f := 18) rfl ?_); refine goesL_ (some 77) rfl rfl Try.func18 (by kernel_rfl) rfl #[.int .i64 t134, .int .i64 a1, .int .i64 a2] rfl (by (try simp only [List.map_toArray, List.map_cons, List.map_nil]); first | done | rfl | (simp only [List.length_drop, List.length_take]; rfl)) ?_; (with_reducible refine (era_Near.calls t134 a1 a2 true none _ A14.out).mono ?_); rintro e w' ⟨rfl, ⟨nd, rfl⟩⟩; refine ⟨_, rfl, ?_⟩; (try simp only [errW_none, errW_some])) | ((with_reducible refine gate_callee (f := 17) rfl ?_); refine goesL_ (some 83) rfl rfl Try.func17 (by kernel_rfl) rfl #[.int .i64 t134, .int .i64 a2] rfl (by (try simp only [List.map_toArray, List.map_cons, List.map_nil]); first | done | rfl | (simp only [List.length_drop, List.length_take]; rfl)) ?_; (with_reducible refine (era_FoldBits.calls t134 a2 t140 none _ A15.out).mono ?_); rintro e w' ⟨rfl, ⟨nd, rfl⟩⟩; refine ⟨_, rfl, ?_⟩; (try simp only [errW_none, errW_some])))
                      go_ret
                      exact ⟨by first | rfl | (simp; done) | (simp [*]; done), by repeat (first | exact Drawn0.refl _ | apply Drawn0.step)⟩
                  · replace c16 := Bool.eq_false_iff.mpr c16
                    subst c16
                    have H1 : (some false) = some r := by rw [if_neg (show ¬ (false = true) by decide)] at H; exact H
                    clear H
                    have H := H1
                    clear H1
                    obtain rfl := Option.some.inj H
                    go_wp2_with (first | ((with_reducible refine gate_callee (f := 19) rfl ?_); refine goesL_ (some 54) rfl rfl Try.func19 (by kernel_rfl) rfl #[.int .u64 t124, .int .i64 a2, .int .i64 a1] rfl (by (try simp only [List.map_toArray, List.map_cons, List.map_nil]); first | done | rfl | (simp only [List.length_drop, List.length_take]; rfl)) ?_; (with_reducible refine (era_Bits.calls kj7 t124 a2 a1 t134 none _ A12.out).mono ?_); rintro e w' ⟨rfl, ⟨nd, rfl⟩⟩; refine ⟨_, rfl, ?_⟩; (try simp only [errW_none, errW_some])) | ((with_reducible refine gate_callee (f := 18) rfl ?_); refine goesL_ (some 77) rfl rfl Try.func18 (by kernel_rfl) rfl #[.int .i64 t134, .int .i64 a1, .int .i64 a2] rfl (by (try simp only [List.map_toArray, List.map_cons, List.map_nil]); first | done | rfl | (simp only [List.length_drop, List.length_take]; rfl)) ?_; (with_reducible refine (era_Near.calls t134 a1 a2 false none _ A14.out).mono ?_); rintro e w' ⟨rfl, ⟨nd, rfl⟩⟩; refine ⟨_, rfl, ?_⟩; (try simp only [errW_none, errW_some])) | ((with_reducible refine gate_callee (f := 17) rfl ?_); refine goesL_ (some 83) rfl rfl Try.func17 (by kernel_rfl) rfl #[.int .i64 t134, .int .i64 a2] rfl (by (try simp only [List.map_toArray, List.map_cons, List.map_nil]); first | done | rfl | (simp only [List.length_drop, List.length_take]; rfl)) ?_; (with_reducible refine (era_FoldBits.calls t134 a2 t140 none _ A15.out).mono ?_); rintro e w' ⟨rfl, ⟨nd, rfl⟩⟩; refine ⟨_, rfl, ?_⟩; (try simp only [errW_none, errW_some])))
                    go_ret
                    exact ⟨by first | rfl | (simp; done) | (simp [*]; done), by repeat (first | exact Drawn0.refl _ | apply Drawn0.step)⟩
                · have H1 : (some false) = some r := by rw [if_neg (show ¬ (some q143).isNone = true by simp)] at H; exact H
                  clear H
                  have H := H1
                  clear H1
                  try simp only [errW_none, errW_some]
                  obtain rfl := Option.some.inj H
                  go_wp2_with (first | ((with_reducible refine gate_callee (f := 19) rfl ?_); refine goesL_ (some 54) rfl rfl Try.func19 (by kernel_rfl) rfl #[.int .u64 t124, .int .i64 a2, .int .i64 a1] rfl (by (try simp only [List.map_toArray, List.map_cons, List.map_nil]); first | done | rfl | (simp only [List.length_drop, List.length_take]; rfl)) ?_; (with_reducible refine (era_Bits.calls kj7 t124 a2 a1 t134 none _ A12.out).mono ?_); rintro e w' ⟨rfl, ⟨nd, rfl⟩⟩; refine ⟨_, rfl, ?_⟩; (try simp only [errW_none, errW_some])) | ((with_reducible refine gate_callee (f := 18) rfl ?_); refine goesL_ (some 77) rfl rfl Try.func18 (by kernel_rfl) rfl #[.int .i64 t134, .int .i64 a1, .int .i64 a2] rfl (by (try simp only [List.map_toArray, List.map_cons, List.map_nil]); first | done | rfl | (simp only [List.length_drop, List.length_take]; rfl)) ?_; (with_reducible refine (era_Near.calls t134 a1 a2 t138 none _ A14.out).mono ?_); rintro e w' ⟨rfl, ⟨nd, rfl⟩⟩; refine ⟨_, rfl, ?_⟩; (try simp only [errW_none, errW_some])) | ((with_reducible refine gate_callee (f := 17) rfl ?_); refine goesL_ (some 83) rfl rfl Try.func17 (by kernel_rfl) rfl #[.int .i64 t134, .int .i64 a2] rfl (by (try simp only [List.map_toArray, List.map_cons, List.map_nil]); first | done | rfl | (simp only [List.length_drop, List.length_take]; rfl)) ?_; (with_reducible refine (era_FoldBits.calls t134 a2 t140 (some q143) _ A15.out).mono ?_); rintro e w' ⟨rfl, ⟨nd, rfl⟩⟩; refine ⟨_, rfl, ?_⟩; (try simp only [errW_none, errW_some])))
                  go_ret
                  exact ⟨by first | rfl | (simp; done) | (simp [*]; done), by repeat (first | exact Drawn0.refl _ | apply Drawn0.step)⟩
              · have H1 : (some false) = some r := by rw [if_neg (show ¬ (some q142).isNone = true by simp)] at H; exact H
                clear H
                have H := H1
                clear H1
                try simp only [errW_none, errW_some]
                obtain rfl := Option.some.inj H
                go_wp2_with (first | ((with_reducible refine gate_callee (f := 19) rfl ?_); refine goesL_ (some 54) rfl rfl Try.func19 (by kernel_rfl) rfl #[.int .u64 t124, .int .i64 a2, .int .i64 a1] rfl (by (try simp only [List.map_toArray, List.map_cons, List.map_nil]); first | done | rfl | (simp only [List.length_drop, List.length_take]; rfl)) ?_; (with_reducible refine (era_Bits.calls kj7 t124 a2 a1 t134 none _ A12.out).mono ?_); rintro e w' ⟨rfl, ⟨nd, rfl⟩⟩; refine ⟨_, rfl, ?_⟩; (try simp only [errW_none, errW_some])) | ((with_reducible refine gate_callee (f := 18) rfl ?_); refine goesL_ (some 77) rfl rfl Try.func18 (by kernel_rfl) rfl #[.int .i64 t134, .int .i64 a1, .int .i64 a2] rfl (by (try simp only [List.map_toArray, List.map_cons, List.map_nil]); first | done | rfl | (simp only [List.length_drop, List.length_take]; rfl)) ?_; (with_reducible refine (era_Near.calls t134 a1 a2 t138 (some q142) _ A14.out).mono ?_); rintro e w' ⟨rfl, ⟨nd, rfl⟩⟩; refine ⟨_, rfl, ?_⟩; (try simp only [errW_none, errW_some])) | ((with_reducible refine gate_callee (f := 17) rfl ?_); refine goesL_ (some 83) rfl rfl Try.func17 (by kernel_rfl) rfl #[.int .i64 t134, .int .i64 a2] rfl (by (try simp only [List.map_toArray, List.map_cons, List.map_nil]); first | done | rfl | (simp only [List.length_drop, List.length_take]; rfl)) ?_; (with_reducible refine (era_FoldBits.calls t134 a2 t140 t141 _ A15.out).mono ?_); rintro e w' ⟨rfl, ⟨nd, rfl⟩⟩; refine ⟨_, rfl, ?_⟩; (try simp only [errW_none, errW_some])))
                go_ret
                exact ⟨by first | rfl | (simp; done) | (simp [*]; done), by repeat (first | exact Drawn0.refl _ | apply Drawn0.step)⟩
            · have H1 : (if t134 = 0 then ((horologenum_Is.f (some q137) 5).bind fun t144 => (some t144)) else (some false)) = some r := by rw [if_neg (show ¬ (some q137).isNone = true by simp)] at H; exact H
              clear H
              have H := H1
              clear H1
              try simp only [errW_none, errW_some]
              by_cases c18 : t134 = 0
              · rw [if_pos c18] at H
                have c18b0 : (t134 == 0) = true := beq_iff_eq.mpr c18
                have c18b1 : (t134 != 0) = false := bne_eq_false_iff_eq.mpr c18
                clear c18
                replace H := Option.bind_eq_some_iff.mp H
                obtain ⟨t144, A190, H⟩ := H
                replace H : (some t144) = some r := H
                have A19 := Aside0.mk A190
                clear A190
                obtain rfl := Option.some.inj H
                go_wp2_with (first | ((with_reducible refine gate_callee (f := 19) rfl ?_); refine goesL_ (some 54) rfl rfl Try.func19 (by kernel_rfl) rfl #[.int .u64 t124, .int .i64 a2, .int .i64 a1] rfl (by (try simp only [List.map_toArray, List.map_cons, List.map_nil]); first | done | rfl | (simp only [List.length_drop, List.length_take]; rfl)) ?_; (with_reducible refine (era_Bits.calls kj7 t124 a2 a1 t134 (some q137) _ A12.out).mono ?_); rintro e w' ⟨rfl, ⟨nd, rfl⟩⟩; refine ⟨_, rfl, ?_⟩; (try simp only [errW_none, errW_some]); have CA19 := fun W => horologenum_Is.calls (some q137) 5 t144 W A19.out; try simp only [errW_none, errW_some] at CA19) | (go_at_call 20; (with_reducible refine (CA19 _).mono ?_); rintro e w' ⟨rfl, ⟨nd, rfl⟩⟩))
                go_ret
                exact ⟨by first | rfl | (simp; done) | (simp [*]; done), by repeat (first | exact Drawn0.refl _ | apply Drawn0.step)⟩
              · rw [if_neg c18] at H
                have c18b0 : (t134 == 0) = false := beq_eq_false_iff_ne.mpr c18
                have c18b1 : (t134 != 0) = true := bne_iff_ne.mpr c18
                obtain rfl := Option.some.inj H
                go_wp2_with (first | ((with_reducible refine gate_callee (f := 19) rfl ?_); refine goesL_ (some 54) rfl rfl Try.func19 (by kernel_rfl) rfl #[.int .u64 t124, .int .i64 a2, .int .i64 a1] rfl (by (try simp only [List.map_toArray, List.map_cons, List.map_nil]); first | done | rfl | (simp only [List.length_drop, List.length_take]; rfl)) ?_; (with_reducible refine (era_Bits.calls kj7 t124 a2 a1 t134 (some q137) _ A12.out).mono ?_); rintro e w' ⟨rfl, ⟨nd, rfl⟩⟩; refine ⟨_, rfl, ?_⟩; (try simp only [errW_none, errW_some])))
                go_ret
                exact ⟨by first | rfl | (simp; done) | (simp [*]; done), by repeat (first | exact Drawn0.refl _ | apply Drawn0.step)⟩
  · replace c5 := Bool.eq_false_iff.mpr c5
    subst c5
    have H1 : (some false) = some r := by rw [if_neg (show ¬ (false = true) by decide)] at H; exact H
    clear H
    have H := H1
    clear H1
    obtain rfl := Option.some.inj H
    go_enter Try.func5, Try.ntmps5
    go_wp2_with (first | ((with_reducible refine gate_callee (f := 7) rfl ?_); refine goesL_ (some 15) rfl rfl Try.func7 (by kernel_rfl) rfl #[] rfl (by (try simp only [List.map_toArray, List.map_cons, List.map_nil]); first | done | rfl | (simp only [List.length_drop, List.length_take]; rfl)) ?_; (with_reducible refine (horologelaw13_alive.calls k  false _ A4.out).mono ?_); rintro e w' ⟨rfl, ⟨nd, rfl⟩⟩; refine ⟨_, rfl, ?_⟩))
    go_ret
    exact ⟨by first | rfl | (simp; done) | (simp [*]; done), by repeat (first | exact Drawn0.refl _ | apply Drawn0.step)⟩

/-- THE ONE PURE STATEMENT of horologelaw13_EraBack: yours. -/
def horologelaw13_EraBack.Pure : Prop := ∀ (a0 : Int) (a1 : Int) (a2 : Int), (Lit.int .i64 a0).wf = true → (Lit.int .i64 a1).wf = true → (Lit.int .i64 a2).wf = true → ∃ k, horologelaw13_EraBack.f k a0 a1 a2 = some true
theorem horologelaw13_EraBack.walk (P : horologelaw13_EraBack.Pure) (a0 : Int) (a1 : Int) (a2 : Int) (w : World) (w0 : (Lit.int .i64 a0).wf = true) (w1 : (Lit.int .i64 a1).wf = true) (w2 : (Lit.int .i64 a2).wf = true) :
    Calls Try.prog 5 #[.int .i64 a0, .int .i64 a1, .int .i64 a2] w fun e w' => e = .returned (.bool true) ∧ Below w.heap.size w w' := by
  obtain ⟨k, h⟩ := P a0 a1 a2 w0 w1 w2
  refine (horologelaw13_EraBack.calls k a0 a1 a2 true w h).mono ?_
  rintro e w' ⟨rfl, hd⟩
  exact ⟨rfl, hd.below⟩

end Go.Proofs.Ytcjmanlcogeikaa.MEraBack
