/- The fixed fact at each statement's head: the chapter's example. -/
import Derived.Test.YtbifanoiailjoaaRateMS
namespace Go.Proofs.Ytbifanoiailjoaa.MRatePlays
open Go.RowKit Go.Proofs.YtbifanoiailjoaaW.PrintWords Go.Proofs.YtbifanoiailjoaaW.PrintLast Go.Proofs.YtbifanoiailjoaaW.PrintMore Go.Proofs.Ytbifanoiailjoaa.Base
set_option linter.unusedVariables false
set_option linter.unusedSimpArgs false

def kA : ByteArray := ⟨#[97]⟩
theorem one_low (m : Int) (t : Bool) : lows [⟨kA, m, t⟩] kA = 0 := by
  unfold lows
  rw [List.takeWhile_cons, lts_irr]
  rfl
theorem one_has (m : Int) (t : Bool) : hass [⟨kA, m, t⟩] kA = true := by
  rw [hass_eq _ _ 0 (one_low m t)]
  have : cps kA kA = 0 := (cps_zero _ _).2 rfl
  show (decide (0 < 1) && decide (cps kA kA = 0)) = true
  rw [this]
  rfl
theorem one_rd (m : Int) (t : Bool) : rd_T60 [⟨kA, m, t⟩] ((0 : Nat) : Int) = ⟨kA, m, t⟩ := rfl
theorem ans1 : anss [⟨kA, 0, false⟩] kA 5 10 = 2 := by
  unfold anss
  rw [one_has, one_low, one_rd]
  rfl
theorem tell1 : tells [⟨kA, 0, false⟩] kA = [⟨kA, 0, true⟩] := by
  unfold tells
  rw [one_low, one_rd]
  rfl
theorem ans2 : anss [⟨kA, 0, true⟩] kA 6 10 = 3 := by
  unfold anss
  rw [one_has, one_low, one_rd]
  rfl
theorem ans3 : anss [⟨kA, 0, true⟩] kA 10 10 = 1 := by
  unfold anss
  rw [one_has, one_low, one_rd]
  rfl
theorem rise1 (m : Int) (t : Bool) : Rises [⟨kA, m, t⟩] := List.pairwise_singleton _ _
theorem ats1 (t : Bool) : Atss [⟨kA, 0, t⟩] := by
  intro x hx
  rw [List.mem_singleton.1 hx]
  exact ⟨Int.le_refl _, (by decide : (0 : Int) ≤ 4611686018427387904)⟩
/-- A box since then: the table's own or a newer one. -/
def Nb (n g b : Nat) : Prop := n ≤ g ∧ n ≤ b
theorem Nb.step {n m g b b' : Nat} (h : Nb n g b) (hm : n ≤ m) (h2 : b' = b ∨ m ≤ b') : Nb n g b' := ⟨h.1, by have := h.2; omega⟩
theorem Nb.below {w W1 W2 : World} {g b : Nat} (h : Nb w.heap.size g b) (h1 : Below w.heap.size w W1) (h2 : Fr (fun k => k = g ∨ k = b) W1 W2) : Below w.heap.size w W2 := by
  obtain ⟨h3, h4⟩ := h
  have h5 := h1.size
  exact ⟨h2.os.trans h1.os, h2.tape.trans h1.tape, h2.output.trans h1.output, Nat.le_trans h5 h2.size, fun k hk => (h2.block k (by omega) (fun q => by rcases q with q | q <;> omega)).trans (h1.block k hk)⟩
set_option maxHeartbeats 4000000 in
set_option maxRecDepth 100000 in
theorem alive_c (w : World) : Calls Try.prog 7 #[] w fun e w' => e = .returned (.bool true) ∧ Below w.heap.size w w' := by
  have HN := Aside0.mk (fun W => news_ok W 2 10 (by decide))
  have H0 := Aside0.mk (fun W g b (h : Tabs W g b [] 2 10) => asks_c W g b [] 2 10 kA 0 h List.Pairwise.nil (fun x h => by cases h) (by simp) (by decide) (by decide) (by decide) (by decide))
  have H1 := Aside0.mk (fun W g b (h : Tabs W g b [⟨kA, 0, false⟩] 2 10) => asks_c W g b _ 2 10 kA 5 h (rise1 _ _) (ats1 _) (by simp) (by decide) (by decide) (by decide) (by decide))
  have H2 := Aside0.mk (fun W g b (h : Tabs W g b [⟨kA, 0, true⟩] 2 10) => asks_c W g b _ 2 10 kA 6 h (rise1 _ _) (ats1 _) (by simp) (by decide) (by decide) (by decide) (by decide))
  have H3 := Aside0.mk (fun W g b (h : Tabs W g b [⟨kA, 0, true⟩] 2 10) => asks_c W g b _ 2 10 kA 10 h (rise1 _ _) (ats1 _) (by simp) (by decide) (by decide) (by decide) (by decide))
  rw [show askLs [] kA 0 2 10 = [⟨kA, 0, false⟩] from rfl, show anss [] kA 0 10 = 1 from rfl] at H0
  rw [show askLs [⟨kA, 0, false⟩] kA 5 2 10 = [⟨kA, 0, true⟩] from by unfold askLs; rw [ans1]; exact tell1, ans1] at H1
  rw [show askLs [⟨kA, 0, true⟩] kA 6 2 10 = [⟨kA, 0, true⟩] from by unfold askLs; rw [ans2]; rfl, ans2] at H2
  rw [ans3] at H3
  go_enter Try.func7, Try.ntmps7
  go_upto_region 4 with (first | (go_at_call 22; refine (HN.out _).mono ?_; rintro e_ w1 ⟨g, rfl, ht_, hg_, hb_⟩; have HT := Aside0.mk ht_; have HB := Aside0.mk hb_; have HG := Aside0.mk hg_; clear ht_ hb_ hg_) | fail)
  have HBG := Aside0.mk (show Nb w.heap.size g g from ⟨HG.out, HG.out⟩)
  go_upto_region 5 with (first | (go_at_call 14; refine (H0.out _ _ _ HT.out).mono ?_; rintro e_ w2 ⟨rfl, b2, ht_, hb_, hf_⟩; have HN_ := Aside0.mk (HBG.out.step HB.out.size hb_); have HB := Aside0.mk (HBG.out.below HB.out hf_); have HBG := HN_; have HT := Aside0.mk ht_; clear ht_ hb_ hf_ HN_) | fail)
  go_upto_region 6 with (first | (go_at_call 14; refine (H1.out _ _ _ HT.out).mono ?_; rintro e_ w3 ⟨rfl, b3, ht_, hb_, hf_⟩; have HN_ := Aside0.mk (HBG.out.step HB.out.size hb_); have HB := Aside0.mk (HBG.out.below HB.out hf_); have HBG := HN_; have HT := Aside0.mk ht_; clear ht_ hb_ hf_ HN_) | fail)
  go_upto_region 7 with (first | (go_at_call 14; refine (H2.out _ _ _ HT.out).mono ?_; rintro e_ w4 ⟨rfl, b4, ht_, hb_, hf_⟩; have HN_ := Aside0.mk (HBG.out.step HB.out.size hb_); have HB := Aside0.mk (HBG.out.below HB.out hf_); have HBG := HN_; have HT := Aside0.mk ht_; clear ht_ hb_ hf_ HN_) | fail)
  go_wp2_with (first | (go_at_call 14; refine (H3.out _ _ _ HT.out).mono ?_; rintro e_ w5 ⟨rfl, b5, ht_, hb_, hf_⟩; have HB := Aside0.mk (HBG.out.below HB.out hf_); clear ht_ hb_ hf_) | fail)
  go_ret
  exact ⟨rfl, HB.out⟩
end Go.Proofs.Ytbifanoiailjoaa.MRatePlays
