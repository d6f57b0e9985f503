/-
  QueueOrder: what was put into a queue comes out in its order, and what was put, less what was taken, is there. For every room and every script; no further condition.
-/
import Derived.Test.YtdgeaadcidmmfaaQueueBase
namespace Go.Proofs.Ytdgeaadcidmmfaa
set_option linter.unusedVariables false
set_option linter.unusedSimpArgs false
open Go.Conc Go.RowKit Go.Proofs.YtdgeaadcidmmfaaW.PrintWords Go.Proofs.YtdgeaadcidmmfaaW.PrintLast
theorem alive_is (w : World) : Calls Try.prog 6 #[] w fun e w' => e = .returned (.bool true) ∧ Below w.heap.size w w' := by
  go_enter Try.func6, Try.ntmps6
  go_wp2_with (fail)
  refine (new_ok_str 1 w (by decide) (by decide)).mono ?_
  rintro e w1 ⟨g, c, rfl, H, hg, hc, hb⟩
  have B1 := Aside0.mk hb
  have C1 := Aside0.mk hc
  have H1 := Aside0.mk H
  clear hb H hg hc
  go_wp2_with (fail)
  refine (put_room_str w1 g c 1 [] 0 0 ⟨#[97]⟩ H1.out (by decide)).mono ?_
  rintro e w2 ⟨rfl, hw⟩
  have H2 := Aside0.mk (show QAt 64 w2 g c 1 [.string ⟨#[97]⟩] 1 0 from hw ▸ H1.out.set _ _ _)
  have B2 := Aside0.mk (show Below w.heap.size w w2 from hw ▸ below_setChan B1.out C1.out _ _ _ _ _ _)
  clear hw H1 B1
  go_wp2_with (fail)
  refine (put_full_str w2 g c 1 _ 1 0 ⟨#[98]⟩ H2.out (by decide)).mono ?_
  rintro e w3 ⟨rfl, rfl⟩
  go_wp2_with (fail)
  refine (take_some_str w3 g c 1 [] 1 0 ⟨#[97]⟩ H2.out).mono ?_
  rintro e w4 ⟨rfl, hw⟩
  have H3 := Aside0.mk (show QAt 64 w4 g c 1 [] 1 1 from hw ▸ H2.out.set _ _ _)
  have B3 := Aside0.mk (show Below w.heap.size w w4 from hw ▸ below_setChan B2.out C1.out _ _ _ _ _ _)
  clear hw H2 B2
  go_wp2_with (fail)
  refine (len_is_str w4 g c 1 [] 1 1 H3.out).mono ?_
  rintro e w5 ⟨rfl, rfl⟩
  go_wp2
  go_ret
  exact ⟨rfl, B3.out⟩

/-- The numbers that wait. -/
def wait (taken put : Nat) : List Value := (List.range' taken (put - taken)).map (fun (j : Nat) => Value.int .i64 (j : Int))
theorem wait_length (taken put : Nat) : (wait taken put).length = put - taken := by simp [wait]
theorem wait_put (taken put : Nat) (h : taken ≤ put) : wait taken put ++ [.int .i64 (put : Int)] = wait taken (put + 1) := by
  unfold wait
  rw [show put + 1 - taken = (put - taken) + 1 by omega, List.range'_concat, List.map_append]
  simp
  omega
theorem wait_take (taken put : Nat) (h : taken < put) : wait taken put = .int .i64 (taken : Int) :: wait (taken + 1) put := by
  unfold wait
  rw [show put - taken = (put - (taken + 1)) + 1 by omega, List.range'_succ]
  simp

set_option maxRecDepth 100000 in
set_option maxHeartbeats 4000000 in
theorem order_walk (room : Int) (A : Option Addr) (n c : Nat) (l : List Bool) (w : World) (hl : Kd.bool.C w A n l) (hn : n ≤ c) :
    Calls Try.prog 3 #[.int .i64 room, .slice A n c] w fun e w' => e = .returned (.bool true) ∧ Below w.heap.size w w' := by
  have HL := Aside0.mk hl
  have hlen : l.length = n := Kd.C_len hl
  clear hl
  by_cases hlong : 200 < n
  · have c0 : decide ((200 : Int) < (n : Int)) = true := decide_eq_true (by omega)
    clear hlong hlen
    go_enter Try.func3, Try.ntmps3
    go_wp2_with (first | (go_at_call 6; refine (alive_is _).mono ?_; rintro e w1 ⟨rfl, hb⟩; have B1 := Aside0.mk hb; clear hb) | fail)
    go_ret
    exact ⟨rfl, B1.out⟩
  have c0 : decide ((200 : Int) < (n : Int)) = false := decide_eq_false (by omega)
  by_cases hroom : room < 1 ∨ 64 < room
  · have hroom' := Aside0.mk hroom
    by_cases r1 : room < 1
    · have c1 : decide (room < 1) = true := decide_eq_true r1
      clear hlong hlen hroom r1
      go_enter Try.func3, Try.ntmps3
      go_wp2_with (first | (go_at_call 6; refine (alive_is _).mono ?_; rintro e w1 ⟨rfl, hb⟩; have B1 := Aside0.mk hb; clear hb) | (go_at_call 7; refine (new_bad_int _ _ hroom'.out).mono ?_; rintro e w2 ⟨rfl, rfl⟩) | fail)
      go_ret
      exact ⟨rfl, B1.out⟩
    · have c1 : decide (room < 1) = false := decide_eq_false r1
      have c2 : decide (64 < room) = true := decide_eq_true (by omega)
      clear hlong hlen hroom r1
      go_enter Try.func3, Try.ntmps3
      go_wp2_with (first | (go_at_call 6; refine (alive_is _).mono ?_; rintro e w1 ⟨rfl, hb⟩; have B1 := Aside0.mk hb; clear hb) | (go_at_call 7; refine (new_bad_int _ _ hroom'.out).mono ?_; rintro e w2 ⟨rfl, rfl⟩) | fail)
      go_ret
      exact ⟨rfl, B1.out⟩
  obtain ⟨R, rfl⟩ : ∃ R : Nat, room = (R : Int) := ⟨room.toNat, by omega⟩
  have hR1 : 1 ≤ R := by omega
  have hR2 : R ≤ 64 := by omega
  clear hroom
  go_enter Try.func3, Try.ntmps3
  go_wp2_with (first | (go_at_call 6; refine (alive_is _).mono ?_; rintro e w1 ⟨rfl, hb⟩; have B1 := Aside0.mk hb; clear hb) | (go_at_call 7; refine (new_ok_int _ _ (by omega) (by omega)).mono ?_; rintro e w2 ⟨g, cc, rfl, H, hg, hcc, hb⟩; have B2 := Aside0.mk (below_step B1.out hb); have G2 := Aside0.mk (Nat.le_trans (below_size B1.out) hcc); have H2 := Aside0.mk H; clear H hg hcc hb) | fail)
  clear c0 B1
  have HL2 := Aside0.mk (show Kd.bool.C w A n l from HL.out)
  go_loopw [7, 8, 38] (fun p t i wr => ∃ (k put taken s r : Nat), k ≤ n ∧ i = .int .i64 k ∧ p = .int .i64 put ∧ t = .int .i64 taken ∧ taken ≤ put ∧ put ≤ k ∧ put - taken ≤ R ∧ Aside0 (QAt 61 wr g cc R (wait taken put) s r) ∧ Aside0 (Below w.heap.size w wr)) (fun _ _ i _ => n - (intOf i).toNat)
  case atStart => exact ⟨0, 0, 0, 0, 0, by omega, rfl, rfl, rfl, by omega, by omega, by omega, H2, B2⟩
  case round =>
    obtain ⟨k, put, taken, s, r, hk, rfl, rfl, rfl, htp, hpk, hpR, HQ, HB⟩ := hrel
    by_cases hlt : k < n
    · obtain ⟨ad, rfl, hcell⟩ := Kd.at_bool (Kd.C_below HL.out HB.out) (k : Int) (by omega) (by omega)
      simp only [Int.toNat_natCast] at hcell
      have hn200 : n ≤ 200 := by omega
      have b1 : (put : Int) ≤ 200 := by omega
      have b2 : (taken : Int) ≤ 200 := by omega
      have b3 : (0 : Int) ≤ (put : Int) - (taken : Int) := by omega
      have b4 : (k : Int) < (n : Int) := by omega
      have b5 : (n : Int) ≤ 200 := by omega
      generalize rdOf false l (k : Int) = b at hcell
      cases b with
      | true =>
        by_cases hroom : put - taken < R
        · have d1 : decide ((put : Int) - (taken : Int) < (R : Int)) = true := decide_eq_true (by omega)
          go_wp2_with (first | (go_at_call 8; refine (put_room_int _ g cc R _ s r _ HQ.out (by rw [wait_length]; exact hroom)).mono ?_; rintro e w3 ⟨rfl, hw⟩; have H3 := Aside0.mk (show QAt 61 w3 g cc R (wait taken (put + 1)) (s + 1) r from hw ▸ wait_put taken put htp ▸ HQ.out.set _ _ _); have B3 := Aside0.mk (show Below w.heap.size w w3 from hw ▸ below_setChan HB.out G2.out _ _ _ _ _ _); clear hw HQ HB) | fail)
          go_roundw
          case rel => exact ⟨k + 1, put + 1, taken, s + 1, r, by omega, by go_num, by go_num, rfl, by omega, by omega, by omega, H3, B3⟩
          case measure => simp [intOf]; omega
        · have d1 : decide ((put : Int) - (taken : Int) < (R : Int)) = false := decide_eq_false (by omega)
          go_wp2_with (first | (go_at_call 8; refine (put_full_int _ g cc R _ s r _ HQ.out (by rw [wait_length]; omega)).mono ?_; rintro e w3 ⟨rfl, rfl⟩) | fail)
          go_roundw
          case rel => exact ⟨k + 1, put, taken, s, r, by omega, by go_num, rfl, rfl, by omega, by omega, by omega, HQ, HB⟩
          case measure => simp [intOf]; omega
      | false =>
        by_cases hsome : taken < put
        · have d1 : decide ((taken : Int) < (put : Int)) = true := decide_eq_true (by omega)
          go_wp2_with (first | (go_at_call 9; refine (take_some_int _ g cc R _ s r (taken : Int) (wait_take taken put hsome ▸ HQ.out)).mono ?_; rintro e w3 ⟨rfl, hw⟩; have H3 := Aside0.mk (show QAt 61 w3 g cc R (wait (taken + 1) put) s (r + 1) from hw ▸ HQ.out.set _ _ _); have B3 := Aside0.mk (show Below w.heap.size w w3 from hw ▸ below_setChan HB.out G2.out _ _ _ _ _ _); clear hw HQ HB) | fail)
          go_roundw
          case rel => exact ⟨k + 1, put, taken + 1, s, r + 1, by omega, by go_num, rfl, by go_num, by omega, by omega, by omega, H3, B3⟩
          case measure => simp [intOf]; omega
        · obtain rfl : taken = put := by omega
          have HQ0 := Aside0.mk (show QAt 61 _ g cc R [] s r from (show wait taken taken = [] by simp [wait]) ▸ HQ.out)
          go_wp2_with (first | (go_at_call 9; refine (take_none_int _ g cc R s r HQ0.out).mono ?_; rintro e w3 ⟨rfl, rfl⟩) | fail)
          go_roundw
          case rel => exact ⟨k + 1, taken, taken, s, r, by omega, by go_num, rfl, rfl, by omega, by omega, by omega, HQ, HB⟩
          case measure => simp [intOf]; omega
    · have hn200 : n ≤ 200 := by omega
      have b1 : (put : Int) ≤ 200 := by omega
      have b2 : (taken : Int) ≤ 200 := by omega
      have b3 : (0 : Int) ≤ (put : Int) - (taken : Int) := by omega
      have el : (((wait taken put).length : Nat) : Int) = (put : Int) - (taken : Int) := by rw [wait_length]; omega
      have EL := Aside0.mk el
      clear el
      go_wp2_with (first | (go_at_call 10; refine (len_is_int _ g cc R _ s r HQ.out).mono ?_; rintro e w3 ⟨he, rfl⟩; rw [EL.out] at he; subst he) | fail)
      go_ret
      exact ⟨by simp, HB.out⟩
end Go.Proofs.Ytdgeaadcidmmfaa
