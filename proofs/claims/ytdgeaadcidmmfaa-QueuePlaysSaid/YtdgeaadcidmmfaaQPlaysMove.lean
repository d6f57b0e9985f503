/-
  Moving texts from one queue to another.
-/
import Derived.Test.YtdgeaadcidmmfaaQPlaysBase
namespace Go.Proofs.Ytdgeaadcidmmfaa
set_option linter.unusedVariables false
set_option linter.unusedSimpArgs false
open Go.Conc Go.RowKit Go.Proofs.YtdgeaadcidmmfaaW.PrintWords Go.Proofs.YtdgeaadcidmmfaaW.PrintLast Go.Proofs.YtdgeaadcidmmfaaW.PrintMore Go.Proofs.Ytdgeaadcidmmfaa.MQueuePlays
set_option maxHeartbeats 4000000 in
set_option maxRecDepth 100000 in
theorem move_c (w : World) (g0 c0 cap0 g1 c1 cap1 : Nat) (l0 l1 : List ByteArray) (hg : g0 ≠ g1) (hc : c0 ≠ c1) (h01 : g0 ≠ c1) (h10 : g1 ≠ c0) (H0 : QL w g0 c0 cap0 l0) (H1 : QL w g1 c1 cap1 l1) (hl0 : l0.length ≤ 64) (hl1 : l1.length ≤ cap1) (hcap : cap1 ≤ 64) :
    Calls Try.prog 23 #[.pointer (some ⟨g0, 0, none⟩), .pointer (some ⟨g1, 0, none⟩)] w fun e w' => e = .returned (.int .i64 (mv l0 l1 cap1)) ∧ QL w' g0 c0 cap0 (l0.drop (mv l0 l1 cap1)) ∧ QL w' g1 c1 cap1 (l1 ++ l0.take (mv l0 l1 cap1)) ∧ Kept w w' (fun k => k = c0 ∨ k = c1) := by
  have A0 := Aside0.mk H0
  have A1 := Aside0.mk H1
  have AC := Aside0.mk hc
  obtain ⟨j, hj, hj0⟩ := info64
  have heq := run_eql_ptr_other (P := Try.prog) w (a := ⟨g0, 0, none⟩) (b := ⟨g1, 0, none⟩) Try.underlying37 hj hj0 (fun e => hg (congrArg Addr.block e)) (by obtain ⟨s, r, h⟩ := H0; exact h.box) (by obtain ⟨s, r, h⟩ := H1; exact h.box)
  clear hj hj0 hg
  have N01 := Aside0.mk h01
  have N10 := Aside0.mk h10
  have AL := Aside0.mk (And.intro hl0 (And.intro hl1 hcap))
  clear H0 H1 hc h01 h10 hl0 hl1 hcap
  go_enter Try.func23, Try.ntmps23
  go_wp2
  go_loopw [5] (fun i wr => ∃ (n : Nat) (cur tq : List ByteArray), i = .int .i64 n ∧ Aside0 (n ≤ mv l0 l1 cap1 ∧ cur = l0.drop n ∧ tq = l1 ++ l0.take n) ∧ Aside0 (QL wr g0 c0 cap0 cur) ∧ Aside0 (QL wr g1 c1 cap1 tq) ∧ Aside0 (Kept w wr (fun k => k = c0 ∨ k = c1))) (fun i _ => mv l0 l1 cap1 - (intOf i).toNat)
  case atStart => exact ⟨0, l0, l1, rfl, ⟨by omega, by simp, by simp⟩, A0, A1, ⟨Kept.refl _ _⟩⟩
  case round =>
    clear A0 A1
    obtain ⟨n, cur, tq, rfl, HP, Q0, Q1, K⟩ := hrel
    have hm : Aside0 (mv l0 l1 cap1 ≤ 64 ∧ mv l0 l1 cap1 ≤ l0.length ∧ mv l0 l1 cap1 + l1.length ≤ cap1 ∧ mv l0 l1 cap1 = min l0.length (cap1 - l1.length)) := ⟨by have h := AL.out; unfold mv; omega⟩
    have hdl : Aside0 (cur.length = l0.length - n) := ⟨by rw [HP.out.2.1]; exact List.length_drop⟩
    have htl : Aside0 (tq.length = l1.length + n) := ⟨by have h := hm.out; have h2 := HP.out.1; rw [HP.out.2.2, List.length_append, List.length_take]; omega⟩
    clear AL
    by_cases hlt : n < mv l0 l1 cap1
    · have HX : Aside0 (putl cap1 tq (hd cur) = l1 ++ l0.take (n + 1) ∧ cur.tail = l0.drop (n + 1) ∧ n + 1 ≤ mv l0 l1 cap1) := ⟨by
        have h := hm.out
        have h3 := htl.out
        have hp := HP.out
        refine ⟨?_, ?_, hlt⟩
        · rw [hp.2.2] at h3
          rw [hp.2.1, hp.2.2]
          exact mv_step (by omega) (by omega)
        · rw [hp.2.1, List.tail_drop]⟩
      have d0 : decide ((0 : Int) < (cur.length : Int)) = true := decide_eq_true (by rw [hdl.out]; have h := hm.out; omega)
      have d0' : decide (0 < cur.length) = true := decide_eq_true (by rw [hdl.out]; have h := hm.out; omega)
      have d1 : decide ((tq.length : Int) < (cap1 : Int)) = true := decide_eq_true (by rw [htl.out]; have h := hm.out; omega)
      have d1' : decide (tq.length < cap1) = true := decide_eq_true (by rw [htl.out]; have h := hm.out; omega)
      have hn64 : (n : Int) ≤ 64 := by have h := hm.out; omega
      clear hlt
      go_wp2_with (first | (go_at_call 19; with_reducible refine (len_c _ g0 c0 cap0 _ Q0.out).mono ?_; rintro e w2 ⟨rfl, rfl⟩) | (go_at_call 19; with_reducible refine (len_c _ g1 c1 cap1 _ Q1.out).mono ?_; rintro e w2 ⟨rfl, rfl⟩) | (go_at_call 20; refine (room_c _ g1 c1 cap1 _ Q1.out).mono ?_; rintro e w2 ⟨rfl, rfl⟩) | (go_at_call 16; refine (take_c _ g0 c0 cap0 _ Q0.out).mono ?_; rintro e w3 ⟨rfl, hq, hk⟩; rw [HX.out.2.1] at hq; have Q0' := Aside0.mk hq; have Q1' := Aside0.mk (QL.kept Q1.out hk N10.out (fun e => AC.out e.symm)); have K' := Aside0.mk (K.out.then_ hk (fun k hk => .inl (.inl hk))); clear hq hk Q0 Q1 K) | (go_at_call 15; refine (put_c _ g1 c1 cap1 _ _ Q1'.out).mono ?_; rintro e w4 ⟨rfl, hq, hk⟩; rw [HX.out.1] at hq; have Q1 := Aside0.mk hq; have Q0 := Aside0.mk (QL.kept Q0'.out hk N01.out AC.out); have K := Aside0.mk (K'.out.then_ hk (fun k hk => .inl (.inr hk))); clear hq hk Q0' Q1' K') | fail)
      go_roundw
      case rel => exact ⟨n + 1, _, _, by go_num, ⟨HX.out.2.2, rfl, rfl⟩, Q0, Q1, K⟩
      case measure => have h := HX.out.2.2; simp [intOf]; omega
    · have HE : Aside0 (cur = l0.drop (mv l0 l1 cap1) ∧ tq = l1 ++ l0.take (mv l0 l1 cap1)) := ⟨by
        have hp := HP.out
        obtain rfl : n = mv l0 l1 cap1 := by omega
        exact hp.2⟩
      obtain rfl : n = mv l0 l1 cap1 := by have hp := HP.out.1; omega
      have HN : Aside0 (QL wr g0 c0 cap0 (l0.drop (mv l0 l1 cap1)) ∧ QL wr g1 c1 cap1 (l1 ++ l0.take (mv l0 l1 cap1))) := ⟨by rw [← HE.out.1, ← HE.out.2]; exact ⟨Q0.out, Q1.out⟩⟩
      clear hlt HP
      by_cases hz : l0.length = mv l0 l1 cap1
      · have d0 : decide ((0 : Int) < (cur.length : Int)) = false := decide_eq_false (by rw [hdl.out]; omega)
        have d0' : decide (0 < cur.length) = false := decide_eq_false (by rw [hdl.out]; omega)
        clear hz hm htl hdl HE
        go_wp2_with (first | (go_at_call 19; with_reducible refine (len_c _ g0 c0 cap0 _ Q0.out).mono ?_; rintro e w2 ⟨rfl, rfl⟩) | fail)
        go_ret
        exact ⟨rfl, HN.out.1, HN.out.2, K.out⟩
      · have hz2 : cap1 = l1.length + mv l0 l1 cap1 := by have h := hm.out; omega
        have d0 : decide ((0 : Int) < (cur.length : Int)) = true := decide_eq_true (by rw [hdl.out]; have h := hm.out; omega)
        have d0' : decide (0 < cur.length) = true := decide_eq_true (by rw [hdl.out]; have h := hm.out; omega)
        have d1 : decide ((tq.length : Int) < (cap1 : Int)) = false := decide_eq_false (by rw [htl.out]; omega)
        have d1' : decide (tq.length < cap1) = false := decide_eq_false (by rw [htl.out]; omega)
        clear hz hz2 hm htl hdl HE
        go_wp2_with (first | (go_at_call 19; with_reducible refine (len_c _ g0 c0 cap0 _ Q0.out).mono ?_; rintro e w2 ⟨rfl, rfl⟩) | (go_at_call 19; with_reducible refine (len_c _ g1 c1 cap1 _ Q1.out).mono ?_; rintro e w2 ⟨rfl, rfl⟩) | (go_at_call 20; refine (room_c _ g1 c1 cap1 _ Q1.out).mono ?_; rintro e w2 ⟨rfl, rfl⟩) | fail)
        go_ret
        exact ⟨rfl, HN.out.1, HN.out.2, K.out⟩
end Go.Proofs.Ytdgeaadcidmmfaa
