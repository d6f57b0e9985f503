/- A question's bytes and an answer's: what they are parsed as, and what bytes a head has. -/
import Derived.Test.YtlaaofbmnaekoaaClientStamp
namespace Go.Proofs.Ytlaaofbmnaekoaa.MWholeClient
open Go.RowKit Go.Proofs.YtlaaofbmnaekoaaW.PrintWords Go.Proofs.YtlaaofbmnaekoaaW.PrintLast Go.Proofs.YtlaaofbmnaekoaaW.PrintMore Go.Proofs.Ytlaaofbmnaekoaa.Base
set_option linter.unusedVariables false
set_option linter.unusedSimpArgs false

def qL (p a b : Int) : List Int := 35 :: 0 :: p :: 0 :: (List.replicate 36 0 ++ (BE 4 a ++ BE 4 b))
def qH (p a b : Int) : HD := ⟨0, 4, 3, 0, IntKind.i8.wrap p, 0, 0, 0, 0, 0, 0, 0, 0, 0, 0, 0, 0, 0, 0, 0, a, b⟩
theorem qL_len (p a b : Int) : (qL p a b).length = 48 := by simp [qL, BE_length]
theorem short0 : Ev (fun k => stamp_ParseShort.f k [0, 0, 0, 0]) (0, 0, none) := Ev.of (fun k => stamp_ParseShort.mono _ k) (k := 60) (by kernel_rfl)
theorem short655 : Ev (fun k => stamp_ParseShort.f k [0, 0, 2, 143]) (0, 655, none) := Ev.of (fun k => stamp_ParseShort.mono _ k) (k := 60) (by kernel_rfl)
theorem put0 : Ev (fun k => stamp_ShortBytes.f k 0 0) [0, 0, 0, 0] := Ev.of (fun k => stamp_ShortBytes.mono _ _ k) (k := 60) (by kernel_rfl)
theorem put655 : Ev (fun k => stamp_ShortBytes.f k 0 655) [0, 0, 2, 143] := Ev.of (fun k => stamp_ShortBytes.mono _ _ k) (k := 60) (by kernel_rfl)
theorem zero8 : ([0, 0, 0, 0, 0, 0, 0, 0] : List Int) = BE 4 0 ++ BE 4 0 := by decide
theorem z32 : B32 0 := ⟨by decide, by decide⟩
theorem first35 (r : List Int) (h : r.length < 1000) : Ev (fun k => head_First.f k (35 :: r)) (0, 4, 3, none) := by
  have h := first_is 35 r (by decide) h
  rw [show wrap64 (35 / 64) = 0 by unfold wrap64; omega, show Go.bits .and .u8 (35 / 8) 7 = 4 by decide, show Go.bits .and .u8 35 7 = 3 by decide, show wrap64 4 = 4 by unfold wrap64; omega, show wrap64 3 = 3 by unfold wrap64; omega] at h
  exact h
theorem first228 (r : List Int) (h : r.length < 1000) : Ev (fun k => head_First.f k (228 :: r)) (3, 4, 4, none) := by
  have h := first_is 228 r (by decide) h
  rw [show wrap64 (228 / 64) = 3 by unfold wrap64; omega, show Go.bits .and .u8 (228 / 8) 7 = 4 by decide, show Go.bits .and .u8 228 7 = 4 by decide, show wrap64 4 = 4 by unfold wrap64; omega] at h
  exact h
theorem q_parse (w : World) (ba c : Nat) (p a b : Int) (ha : B32 a) (hb : B32 b) (hC : Kd.C (Kd.int .u8) w (some ⟨ba, 0, none⟩) (qL p a b).length (qL p a b)) (hc : 48 ≤ c) (W : World) (hW : Below w.heap.size w W) :
    Calls Try.prog 16 #[.slice (some ⟨ba, 0, none⟩) 48 c] W fun e w' => e = .returned (.tuple #[.agg (qH p a b).cs, .nilIface]) ∧ Below W.heap.size W w' := by
  obtain ⟨n1, h1⟩ := cut_is (qL p a b) (qL_len p a b)
  obtain ⟨n2, h2⟩ := first35 (0 :: p :: 0 :: (List.replicate 36 0 ++ (BE 4 a ++ BE 4 b))) (by simp [BE_length])
  obtain ⟨n3, h3⟩ := short0
  obtain ⟨n4, h4⟩ := two_get z32 z32
  obtain ⟨n5, h5⟩ := two_get ha hb
  have q := parse_c W (some ⟨ba, 0, none⟩) c (qL p a b) (n1 + n2 + n3 + n4 + n5) (qL p a b) (qH p a b) (Kd.C_below hC hW) (by rw [qL_len]; exact hc) (h1 _ (by omega)) (qL_len p a b) (h2 _ (by omega)) rfl rfl rfl (h3 _ (by omega)) (h3 _ (by omega)) ⟨rfl, rfl, rfl, rfl⟩ (fun k hk => by
    have h : k = 0 ∨ k = 1 ∨ k = 2 ∨ k = 3 := by omega
    rcases h with rfl | rfl | rfl | rfl
    · exact (congrArg _ (show ((qL p a b).take (24 + 8 * 0)).drop (16 + 8 * 0) = BE 4 0 ++ BE 4 0 from zero8)).trans (h4 _ (by omega))
    · exact (congrArg _ (show ((qL p a b).take (24 + 8 * 1)).drop (16 + 8 * 1) = BE 4 0 ++ BE 4 0 from zero8)).trans (h4 _ (by omega))
    · exact (congrArg _ (show ((qL p a b).take (24 + 8 * 2)).drop (16 + 8 * 2) = BE 4 0 ++ BE 4 0 from zero8)).trans (h4 _ (by omega))
    · exact (congrArg _ (show ((qL p a b).take (24 + 8 * 3)).drop (16 + 8 * 3) = BE 4 a ++ BE 4 b from by unfold qL; simp only [BE4]; rfl)).trans (h5 _ (by omega)))
  rw [qL_len] at q
  exact q
def aS (a b r0 r1 s0 s1 : Int) : Nat → List Int
  | 0 => BE 4 r0 ++ BE 4 0
  | 1 => BE 4 a ++ BE 4 b
  | 2 => BE 4 r0 ++ BE 4 r1
  | _ => BE 4 s0 ++ BE 4 s1
def aL (p a b r0 r1 s0 s1 : Int) : List Int := [228, 16, IntKind.u8.wrap (IntKind.i8.wrap p), 236] ++ [0, 0, 0, 0] ++ [0, 0, 2, 143] ++ [76, 79, 67, 76] ++ LK (aS a b r0 r1 s0 s1) 4
def aH (p a b r0 r1 s0 s1 : Int) : HD := ⟨3, 4, 4, 16, IntKind.i8.wrap p, -20, 0, 0, 0, 655, 76, 79, 67, 76, r0, 0, a, b, r0, r1, s0, s1⟩
theorem aS_len (a b r0 r1 s0 s1 : Int) (k : Nat) : (aS a b r0 r1 s0 s1 k).length = 8 := by
  match k with
  | 0 => exact two_len _ _
  | 1 => exact two_len _ _
  | 2 => exact two_len _ _
  | _ + 3 => exact two_len _ _
theorem aL_len (p a b r0 r1 s0 s1 : Int) : (aL p a b r0 r1 s0 s1).length = 48 := by
  unfold aL
  simp only [LK, List.length_append, aS_len, List.length_cons, List.length_nil]
theorem wrap_i8' (n : Int) : IntKind.i8.wrap n = (n + 128) % 256 - 128 := by
  simp [IntKind.wrap, IntKind.bits, IntKind.signed]
  split <;> omega
theorem wrap_u8' (n : Int) : IntKind.u8.wrap n = n % 256 := by simp [IntKind.wrap, IntKind.bits, IntKind.signed]
theorem i8_u8_i8 (p : Int) : IntKind.i8.wrap (IntKind.u8.wrap (IntKind.i8.wrap p)) = IntKind.i8.wrap p := by
  rw [wrap_i8', wrap_i8', wrap_u8']; omega
theorem a_parse (w : World) (ba c : Nat) (p a b r0 r1 s0 s1 : Int) (ha : B32 a) (hb : B32 b) (hr0 : B32 r0) (hr1 : B32 r1) (hs0 : B32 s0) (hs1 : B32 s1) (hC : Kd.C (Kd.int .u8) w (some ⟨ba, 0, none⟩) (aL p a b r0 r1 s0 s1).length (aL p a b r0 r1 s0 s1)) (hc : 48 ≤ c) (W : World) (hW : Below w.heap.size w W) :
    Calls Try.prog 16 #[.slice (some ⟨ba, 0, none⟩) 48 c] W fun e w' => e = .returned (.tuple #[.agg (aH p a b r0 r1 s0 s1).cs, .nilIface]) ∧ Below W.heap.size W w' := by
  obtain ⟨n1, h1⟩ := cut_is (aL p a b r0 r1 s0 s1) (aL_len p a b r0 r1 s0 s1)
  obtain ⟨r, hr⟩ : ∃ r, aL p a b r0 r1 s0 s1 = 228 :: r := ⟨_, rfl⟩
  have hrl : r.length < 1000 := by have h := aL_len p a b r0 r1 s0 s1; rw [hr] at h; simp only [List.length_cons] at h; omega
  obtain ⟨n2, h2⟩ := first228 r hrl
  rw [← hr] at h2
  obtain ⟨n3, h3⟩ := short0
  obtain ⟨n4, h4⟩ := short655
  obtain ⟨n5, h5⟩ := two_get hr0 z32
  obtain ⟨n6, h6⟩ := two_get ha hb
  obtain ⟨n7, h7⟩ := two_get hr0 hr1
  obtain ⟨n8, h8⟩ := two_get hs0 hs1
  have q := parse_c W (some ⟨ba, 0, none⟩) c (aL p a b r0 r1 s0 s1) (n1 + n2 + n3 + n4 + n5 + n6 + n7 + n8) (aL p a b r0 r1 s0 s1) (aH p a b r0 r1 s0 s1) (Kd.C_below hC hW) (by rw [aL_len]; exact hc) (h1 _ (by omega)) (aL_len p a b r0 r1 s0 s1) (h2 _ (by omega)) rfl (i8_u8_i8 p) (by show IntKind.i8.wrap 236 = -20; rfl) (h3 _ (by omega)) (h4 _ (by omega)) ⟨rfl, rfl, rfl, rfl⟩ (fun k hk => by
    have h : k = 0 ∨ k = 1 ∨ k = 2 ∨ k = 3 := by omega
    rcases h with rfl | rfl | rfl | rfl
    · exact (congrArg _ (show ((aL p a b r0 r1 s0 s1).take (24 + 8 * 0)).drop (16 + 8 * 0) = BE 4 r0 ++ BE 4 0 from by unfold aL; simp only [LK, aS, BE4]; rfl)).trans (h5 _ (by omega))
    · exact (congrArg _ (show ((aL p a b r0 r1 s0 s1).take (24 + 8 * 1)).drop (16 + 8 * 1) = BE 4 a ++ BE 4 b from by unfold aL; simp only [LK, aS, BE4]; rfl)).trans (h6 _ (by omega))
    · exact (congrArg _ (show ((aL p a b r0 r1 s0 s1).take (24 + 8 * 2)).drop (16 + 8 * 2) = BE 4 r0 ++ BE 4 r1 from by unfold aL; simp only [LK, aS, BE4]; rfl)).trans (h7 _ (by omega))
    · exact (congrArg _ (show ((aL p a b r0 r1 s0 s1).take (24 + 8 * 3)).drop (16 + 8 * 3) = BE 4 s0 ++ BE 4 s1 from by unfold aL; simp only [LK, aS, BE4]; rfl)).trans (h8 _ (by omega)))
  rw [aL_len] at q
  exact q
theorem check_is (p1 p2 p3 p4 p5 p6 p7 p8 p9 p10 p11 p12 p13 p14 p15 p16 p17 p18 p19 : Int) : Ev (fun k => head_Check.f k 3 4 4 p1 p2 p3 p4 p5 p6 p7 p8 p9 p10 p11 p12 p13 p14 p15 p16 p17 p18 p19) none := by
  unfold head_Check.f
  have i1 : head_in.f 3 3 = some true := by rfl
  have i2 : head_in.f 4 7 = some true := by rfl
  refine Ev.bindc i1 (Ev.pos rfl (Ev.bindc i2 (Ev.pos rfl (Ev.bindc i2 (Ev.up ?_)))))
  simp only [head_Check.j0]
  exact Ev.neg (by decide) (Ev.now _)
theorem a_put (p a b r0 r1 s0 s1 : Int) (ha : B32 a) (hb : B32 b) (hr0 : B32 r0) (hr1 : B32 r1) (hs0 : B32 s0) (hs1 : B32 s1) (W : World) :
    Calls Try.prog 31 #[.agg (aH p a b r0 r1 s0 s1).cs] W fun e w' => ∃ v, e = .returned (.tuple #[v, .nilIface]) ∧ Kd.R (Kd.int .u8) 5 w' W.heap.size (fun _ => True) v (aL p a b r0 r1 s0 s1) ∧ Below W.heap.size W w' := by
  obtain ⟨n1, h1⟩ := check_is 16 (IntKind.i8.wrap p) (-20) 0 0 0 655 76 79 67 76 r0 0 a b r0 r1 s0 s1
  obtain ⟨n3, h3⟩ := put0
  obtain ⟨n4, h4⟩ := put655
  obtain ⟨n5, h5⟩ := two_put hr0 z32
  obtain ⟨n6, h6⟩ := two_put ha hb
  obtain ⟨n7, h7⟩ := two_put hr0 hr1
  obtain ⟨n8, h8⟩ := two_put hs0 hs1
  exact put_c W (n1 + n3 + n4 + n5 + n6 + n7 + n8) (aH p a b r0 r1 s0 s1) (IntKind.u8.wrap (IntKind.i8.wrap p)) 236 [0, 0, 0, 0] [0, 0, 2, 143] (aS a b r0 r1 s0 s1) (h1 _ (by omega)) rfl rfl rfl rfl (by show IntKind.u8.wrap (-20) = 236; rfl) (h3 _ (by omega)) (h4 _ (by omega)) (fun k hk => by
    have h : k = 0 ∨ k = 1 ∨ k = 2 ∨ k = 3 := by omega
    rcases h with rfl | rfl | rfl | rfl
    · exact h5 _ (by omega)
    · exact h6 _ (by omega)
    · exact h7 _ (by omega)
    · exact h8 _ (by omega)) (by decide) (by decide) (fun k _ => by rw [aS_len]; omega)
end Go.Proofs.Ytlaaofbmnaekoaa.MWholeClient
