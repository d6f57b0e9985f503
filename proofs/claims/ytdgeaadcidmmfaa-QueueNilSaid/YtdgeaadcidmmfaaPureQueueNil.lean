/-
  QueueNil: what a nil queue answers. For every text; no further condition.
-/
import Derived.Test.YtdgeaadcidmmfaaPureQueueOrder
namespace Go.Proofs.Ytdgeaadcidmmfaa
set_option linter.unusedVariables false
set_option linter.unusedSimpArgs false
open Go.Conc Go.RowKit Go.Proofs.YtdgeaadcidmmfaaW.PrintWords Go.Proofs.YtdgeaadcidmmfaaW.PrintLast
theorem put_nil (s : ByteArray) (w : World) : Calls Try.prog 15 #[.pointer none, .string s] w fun e w' => e = .returned (.bool false) ∧ w' = w := by
  go_enter Try.func15, Try.ntmps15
  go_wp2
  go_ret
  exact ⟨rfl, rfl⟩
theorem take_nil (w : World) : Calls Try.prog 16 #[.pointer none] w fun e w' => e = .returned (.tuple #[.string ByteArray.empty, .bool false]) ∧ w' = w := by
  go_enter Try.func16, Try.ntmps16
  go_wp2
  go_ret2
  exact ⟨rfl, rfl⟩
theorem len_nil (w : World) : Calls Try.prog 19 #[.pointer none] w fun e w' => e = .returned (.int .i64 0) ∧ w' = w := by
  go_enter Try.func19, Try.ntmps19
  go_wp2
  go_ret
  exact ⟨rfl, rfl⟩
theorem room_nil (w : World) : Calls Try.prog 20 #[.pointer none] w fun e w' => e = .returned (.int .i64 0) ∧ w' = w := by
  go_enter Try.func20, Try.ntmps20
  go_wp2
  go_ret
  exact ⟨rfl, rfl⟩
theorem drain_nil (w : World) : Calls Try.prog 22 #[.pointer none] w fun e w' => e = .returned (.slice none 0 0) ∧ w' = w := by
  go_enter Try.func22, Try.ntmps22
  go_wp2_with (first | (go_at_call 16; refine (take_nil _).mono ?_; rintro e w1 ⟨rfl, rfl⟩) | fail)
  go_loop [3, 5] (fun v b => v = .slice none 0 0 ∧ b = .bool false) (fun _ _ => 0)
  case atStart => exact ⟨rfl, rfl⟩
  case round =>
    obtain ⟨rfl, rfl⟩ := hrel
    go_wp2
    go_ret
    exact ⟨rfl, rfl⟩
theorem list_nil (w : World) : Calls Try.prog 21 #[.pointer none] w fun e w' => e = .returned (.slice none 0 0) ∧ w' = w := by
  go_enter Try.func21, Try.ntmps21
  go_wp2_with (first | (go_at_call 22; refine (drain_nil _).mono ?_; rintro e w1 ⟨rfl, rfl⟩) | fail)
  go_loop [10] (fun b => b = .int .i64 0) (fun _ => 0)
  case atStart => rfl
  case round =>
    obtain rfl := hrel
    go_wp2
    go_ret
    exact ⟨rfl, rfl⟩
theorem peek_nil (w : World) : Calls Try.prog 17 #[.pointer none] w fun e w' => e = .returned (.tuple #[.string ByteArray.empty, .bool false]) ∧ w' = w := by
  go_enter Try.func17, Try.ntmps17
  go_wp2_with (first | (go_at_call 21; refine (list_nil _).mono ?_; rintro e w1 ⟨rfl, rfl⟩) | fail)
  go_ret2
  exact ⟨rfl, rfl⟩
theorem move_nil (w : World) : Calls Try.prog 23 #[.pointer none, .pointer none] w fun e w' => e = .returned (.int .i64 0) ∧ w' = w := by
  go_enter Try.func23, Try.ntmps23
  go_wp2
  go_ret
  exact ⟨rfl, rfl⟩
theorem first_none (w : World) : Calls Try.prog 18 #[.slice none 0 0] w fun e w' => e = .returned (.tuple #[.string ByteArray.empty, .int .i64 (-1), .bool false]) ∧ w' = w := by
  go_enter Try.func18, Try.ntmps18
  go_wp2
  go_loop [12] (fun b => b = .int .i64 0) (fun _ => 0)
  case atStart => rfl
  case round =>
    obtain rfl := hrel
    go_wp2
    go_ret3
    exact ⟨rfl, rfl⟩
theorem first_nil (g : Nat) (w : World) (hc : w.cell? ⟨g, 0, none⟩ = some (.pointer none)) : Calls Try.prog 18 #[.slice (some ⟨g, 0, none⟩) 1 1] w fun e w' => e = .returned (.tuple #[.string ByteArray.empty, .int .i64 (-1), .bool false]) ∧ w' = w := by
  go_enter Try.func18, Try.ntmps18
  go_wp2
  go_loop [12] (fun b => ∃ k : Nat, k ≤ 1 ∧ b = .int .i64 k) (fun b => 1 - (intOf b).toNat)
  case atStart => exact ⟨0, by omega, rfl⟩
  case round =>
    obtain ⟨k, hk, rfl⟩ := hrel
    obtain rfl | rfl : k = 0 ∨ k = 1 := by omega
    · go_wp2_with (first | (go_at_call 16; refine (take_nil _).mono ?_; rintro e w1 ⟨rfl, rfl⟩) | fail)
      go_round
      case rel => exact ⟨1, by omega, by first | rfl | go_num⟩
      case measure => simp [intOf]
    · go_wp2
      go_ret3
      exact ⟨rfl, rfl⟩
theorem nil_walk (s : ByteArray) (w : World) : Calls Try.prog 5 #[.string s] w fun e w' => e = .returned (.bool true) ∧ Below w.heap.size w w' := by
  by_cases hlong : 60 < s.size
  · have c0 : decide ((60 : Int) < (s.size : Int)) = true := decide_eq_true (by omega)
    clear hlong
    go_enter Try.func5, Try.ntmps5
    go_wp2_with (first | (go_at_call 6; refine (alive_is _).mono ?_; rintro e w1 ⟨rfl, hb⟩; have B1 := Aside0.mk hb; clear hb) | fail)
    go_ret
    exact ⟨rfl, B1.out⟩
  · have c0 : decide ((60 : Int) < (s.size : Int)) = false := decide_eq_false (by omega)
    clear hlong
    go_enter Try.func5, Try.ntmps5
    go_wp2_with (first | (go_at_call 6; refine (alive_is _).mono ?_; rintro e w1 ⟨rfl, hb⟩; have B1 := Aside0.mk hb; clear hb) | (go_at_call 15; refine (put_nil _ _).mono ?_; rintro e w2 ⟨rfl, rfl⟩) | (go_at_call 16; refine (take_nil _).mono ?_; rintro e w2 ⟨rfl, rfl⟩) | (go_at_call 17; refine (peek_nil _).mono ?_; rintro e w2 ⟨rfl, rfl⟩) | fail)
    refine (first_nil _ _ (by go_simp)).mono ?_
    rintro e w3 ⟨rfl, rfl⟩
    have B2 := Aside0.mk (below_alloc B1.out (.cells #[.pointer none] 37 (0, 0)))
    go_wp2_with (first | (go_at_call 18; refine (first_none _).mono ?_; rintro e w3 ⟨rfl, rfl⟩) | (go_at_call 19; refine (len_nil _).mono ?_; rintro e w3 ⟨rfl, rfl⟩) | (go_at_call 20; refine (room_nil _).mono ?_; rintro e w3 ⟨rfl, rfl⟩) | (go_at_call 21; refine (list_nil _).mono ?_; rintro e w3 ⟨rfl, rfl⟩) | (go_at_call 22; refine (drain_nil _).mono ?_; rintro e w3 ⟨rfl, rfl⟩) | (go_at_call 23; refine (move_nil _).mono ?_; rintro e w3 ⟨rfl, rfl⟩) | fail)
    go_ret
    exact ⟨rfl, B2.out⟩
end Go.Proofs.Ytdgeaadcidmmfaa
