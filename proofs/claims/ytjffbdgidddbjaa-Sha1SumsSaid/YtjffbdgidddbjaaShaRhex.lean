/-
  SHA-1: the document's signs of bytes, walked by hand.
-/
import Derived.Test.YtjffbdgidddbjaaShaPad
namespace Go.Proofs.Ytjffbdgidddbjaa
set_option linter.unusedVariables false
set_option linter.unusedSimpArgs false
open Go.RowKit Go.Proofs.YtjffbdgidddbjaaW.PrintWords Go.Proofs.YtjffbdgidddbjaaW.PrintLast Go.Proofs.YtjffbdgidddbjaaW.PrintMore Go.Proofs.Ytjffbdgidddbjaa.MSha1Sums Go.Proofs.Ytjffbdgidddbjaa.Base
theorem hexcut (y : Int) (h0 : 0 ≤ y) (h1 : y ≤ 15) (W : World) : Sem.run Try.prog (Instr.slice 9 (.string ⟨#[48, 49, 50, 51, 52, 53, 54, 55, 56, 57, 97, 98, 99, 100, 101, 102]⟩) (some (.int .u8 y)) (some (.int .u8 (y + 1))) none) W = .ok (.string (strOfNums [sg y])) W := by
  have h : y = 0 ∨ y = 1 ∨ y = 2 ∨ y = 3 ∨ y = 4 ∨ y = 5 ∨ y = 6 ∨ y = 7 ∨ y = 8 ∨ y = 9 ∨ y = 10 ∨ y = 11 ∨ y = 12 ∨ y = 13 ∨ y = 14 ∨ y = 15 := by omega
  rcases h with rfl | rfl | rfl | rfl | rfl | rfl | rfl | rfl | rfl | rfl | rfl | rfl | rfl | rfl | rfl | rfl <;> rfl
theorem str_app (a b : List Int) : strOfNums a ++ strOfNums b = strOfNums (a ++ b) := by
  unfold strOfNums
  apply ByteArray.ext
  simp [ByteArray.data_append]
theorem str_size (l : List Int) : (strOfNums l).size = l.length := by
  unfold strOfNums
  show (Array.size _) = _
  simp
def V13 (ad : Addr) (n c k : Nat) (x y1 y2 : Int) (acc : List Int) : Nat → Value
  | 0 => .string (strOfNums acc)
  | 1 => .string ⟨#[48, 49, 50, 51, 52, 53, 54, 55, 56, 57, 97, 98, 99, 100, 101, 102]⟩
  | 2 => .slice (some ad) n c
  | 3 => .int .i64 (k : Int)
  | 4 => .pointer (some (ad.add k))
  | 5 => .int .u8 x
  | 6 => .int .u8 y1
  | 7 => .slice (some ad) n c
  | 8 => .int .i64 (k : Int)
  | 9 => .pointer (some (ad.add k))
  | 10 => .int .u8 x
  | 11 => .int .u8 y1
  | 12 => .int .u8 (y1 + 1)
  | 13 => .string (strOfNums [sg y1])
  | 14 => .string ⟨#[48, 49, 50, 51, 52, 53, 54, 55, 56, 57, 97, 98, 99, 100, 101, 102]⟩
  | 15 => .slice (some ad) n c
  | 16 => .int .i64 (k : Int)
  | 17 => .pointer (some (ad.add k))
  | 18 => .int .u8 x
  | 19 => .int .u8 y2
  | 20 => .slice (some ad) n c
  | 21 => .int .i64 (k : Int)
  | 22 => .pointer (some (ad.add k))
  | 23 => .int .u8 x
  | 24 => .int .u8 y2
  | 25 => .int .u8 (y2 + 1)
  | 26 => .string (strOfNums [sg y2])
  | 27 => .string (strOfNums [sg y1, sg y2])
  | _ => .string (strOfNums (acc ++ [sg y1, sg y2]))
set_option maxHeartbeats 4000000 in
set_option maxRecDepth 100000 in
theorem rhex_c (w : World) (A : Option Addr) (c : Nat) (l : List Int) (hC : Kd.C (Kd.int .u8) w A l.length l) (hb : ∀ i, Byte (l.getD i 0)) (hn : l.length ≤ 1000) :
    Calls Try.prog 13 #[.slice A l.length c] w fun e w' => e = .returned (.string (strOfNums (hexs l))) ∧ Below w.heap.size w w' := by
  have hu22 := Try.underlying22
  have HC := Aside0.mk hC
  have HBY := Aside0.mk hb
  clear hC hb
  obtain ⟨n, hln⟩ : ∃ n, l.length = n := ⟨_, rfl⟩
  rw [hln] at hn HC ⊢
  have HLN := Aside0.mk hln
  clear hln
  go_enter Try.func13, Try.ntmps13
  go_wp2
  go_loopw [4, 5] (fun v4 v5 wr => ∃ k : Nat, k ≤ n ∧ v5 = .int .i64 k ∧ v4 = .string (strOfNums (hexs (l.take k))) ∧ Aside0 (Below w.heap.size w wr)) (fun _ v5 _ => n - (intOf v5).toNat)
  case atStart => exact ⟨0, by omega, rfl, rfl, ⟨Below.refl _ _⟩⟩
  case round =>
    obtain ⟨k, hk, rfl, rfl, B⟩ := hrel
    by_cases hkn : k < n
    · have d0 : decide ((k : Int) < (n : Int)) = true := by simp; omega
      have q0 : wrap64 ((k : Int) + 1) = ((k + 1 : Nat) : Int) := by unfold wrap64; omega
      obtain ⟨ad, hA, _⟩ := HC.out.2.2 (by omega)
      have HLT := Aside0.mk (show (k : Int) < (n : Int) by omega)
      obtain ⟨x, hx⟩ : ∃ x, l.getD k 0 = x := ⟨_, rfl⟩
      have hbx := HBY.out k
      rw [hx] at hbx
      unfold Byte at hbx
      have HT := Aside0.mk (hexs_take l k (by rw [HLN.out]; exact hkn))
      rw [hx] at HT
      have HCX : Aside0 (∀ wx, Below wr.heap.size wr.drew wx → wx.cell? (ad.add k) = some (.int .u8 x)) := ⟨fun wx hG => by
        have h0 := HC.out
        rw [hA, ← HLN.out] at h0
        have h1 := C_cell .u8 l (Kd.C_below (Kd.C_below h0 B.out) (below_step (below_drew (Below.refl _ _)) hG)) k (by rw [HLN.out]; exact hkn)
        rw [hx] at h1
        exact h1⟩
      clear hx
      obtain ⟨acc, hacc⟩ : ∃ acc, hexs (l.take k) = acc := ⟨_, rfl⟩
      rw [hacc] at HT ⊢
      have HAC : Aside0 (acc.length ≤ 2000) := ⟨by rw [← hacc, hexs_len]; simp; omega⟩
      clear hacc
      obtain ⟨y1, hy1⟩ : ∃ y1, x / 16 = y1 := ⟨_, rfl⟩
      obtain ⟨y2, hy2⟩ : ∃ y2, x % 16 = y2 := ⟨_, rfl⟩
      rw [hy1, hy2] at HT
      have m1 : Int.tdiv x 16 = y1 := by rw [Int.tdiv_eq_ediv_of_nonneg (by omega)]; exact hy1
      have m2 : Int.tmod x 16 = y2 := by rw [Int.tmod_eq_emod_of_nonneg (by omega)]; exact hy2
      have s1 := fun W => hexcut y1 (by omega) (by omega) W
      have s2 := fun W => hexcut y2 (by omega) (by omega) W
      have z1 : IntKind.u8.wrap (y1 + 1) = y1 + 1 := by rw [IntKind.wrap_u8]; omega
      have z2 : IntKind.u8.wrap (y2 + 1) = y2 + 1 := by rw [IntKind.wrap_u8]; omega
      have z3 : IntKind.u8.wrap y1 = y1 := by rw [IntKind.wrap_u8]; omega
      have z4 : IntKind.u8.wrap y2 = y2 := by rw [IntKind.wrap_u8]; omega
      subst hA
      go_wp2
      refine region_below (T := ?T6) (n := 1) [some 12, some 13, some 14, some 15, some 16, some 17, some 18, some 19, some 20, some 21, some 22, some 23, some 24, some 25, some 26, some 27, some 28, some 29, some 30, some 31, some 32, some 33, some 34, some 35, some 36, some 37, some 38, some 39, some 40] ?hT6 (fun i_ v_ _ => v_ = V13 ad n c k x y1 y2 acc i_) (by kernel_rfl) (by kernel_rfl) (fun i_ v_ w_ w1_ _ h_ _ => h_) [0, 1, 2, 3, 4, 5, 6, 7, 8, 9, 10, 11, 12, 13, 14, 15, 16, 17, 18, 19, 20, 21, 22, 23, 24, 25, 26, 27, 28] rfl (.cons (some 12) rfl rfl (fun X wx hG hX K hK => ?_) (.cons (some 13) rfl rfl (fun X wx hG hX K hK => ?_) (.cons (some 14) rfl rfl (fun X wx hG hX K hK => ?_) (.cons (some 15) rfl rfl (fun X wx hG hX K hK => ?_) (.cons (some 16) rfl rfl (fun X wx hG hX K hK => ?_) (.cons (some 17) rfl rfl (fun X wx hG hX K hK => ?_) (.cons (some 18) rfl rfl (fun X wx hG hX K hK => ?_) (.cons (some 19) rfl rfl (fun X wx hG hX K hK => ?_) (.cons (some 20) rfl rfl (fun X wx hG hX K hK => ?_) (.cons (some 21) rfl rfl (fun X wx hG hX K hK => ?_) (.cons (some 22) rfl rfl (fun X wx hG hX K hK => ?_) (.cons (some 23) rfl rfl (fun X wx hG hX K hK => ?_) (.cons (some 24) rfl rfl (fun X wx hG hX K hK => ?_) (.cons (some 25) rfl rfl (fun X wx hG hX K hK => ?_) (.cons (some 26) rfl rfl (fun X wx hG hX K hK => ?_) (.cons (some 27) rfl rfl (fun X wx hG hX K hK => ?_) (.cons (some 28) rfl rfl (fun X wx hG hX K hK => ?_) (.cons (some 29) rfl rfl (fun X wx hG hX K hK => ?_) (.cons (some 30) rfl rfl (fun X wx hG hX K hK => ?_) (.cons (some 31) rfl rfl (fun X wx hG hX K hK => ?_) (.cons (some 32) rfl rfl (fun X wx hG hX K hK => ?_) (.cons (some 33) rfl rfl (fun X wx hG hX K hK => ?_) (.cons (some 34) rfl rfl (fun X wx hG hX K hK => ?_) (.cons (some 35) rfl rfl (fun X wx hG hX K hK => ?_) (.cons (some 36) rfl rfl (fun X wx hG hX K hK => ?_) (.cons (some 37) rfl rfl (fun X wx hG hX K hK => ?_) (.cons (some 38) rfl rfl (fun X wx hG hX K hK => ?_) (.cons (some 39) rfl rfl (fun X wx hG hX K hK => ?_) (.cons (some 40) rfl rfl (fun X wx hG hX K hK => ?_) .nil))))))))))))))))))))))))))))) (by kernel_rfl) #[true, true, true, true, true, true, true, true, true, true, true, true, true, true, true, true, true, true, true, true, true, true, true, true, true, true, true, true, true, false] (by kernel_rfl) ?_
      case hT6 =>
        intro X
        simp only [fill, Act.put, List.setIfInBounds_toArray, List.set_cons_zero, List.set_cons_succ, Nat.zero_add, Nat.reduceAdd]
        rfl
      · refine val_ (w1 := wx) (v := .string (strOfNums acc)) (by rfl) rfl ?_ (hK.out _ _ _ rfl (Below.refl _ _) rfl)
        go_simp
      · refine val_ (w1 := wx) (v := .string ⟨#[48, 49, 50, 51, 52, 53, 54, 55, 56, 57, 97, 98, 99, 100, 101, 102]⟩) (by rfl) rfl ?_ (hK.out _ _ _ rfl (Below.refl _ _) rfl)
        go_simp
      · refine val_ (w1 := wx) (v := .slice (some ad) n c) (by rfl) rfl ?_ (hK.out _ _ _ rfl (Below.refl _ _) rfl)
        go_simp
      · refine val_ (w1 := wx) (v := .int .i64 (k : Int)) (by rfl) rfl ?_ (hK.out _ _ _ rfl (Below.refl _ _) rfl)
        go_simp
      · have e2 : X 2 = .slice (some ad) n c := hX 3 2 (by kernel_rfl)
        have e3 : X 3 = .int .i64 (k : Int) := hX 3 3 (by kernel_rfl)
        have r_ := HLT.out
        refine val_ (w1 := wx) (v := .pointer (some (ad.add k))) (by rfl) rfl ?_ (hK.out _ _ _ rfl (Below.refl _ _) rfl)
        go_simp
      · have e4 : X 4 = .pointer (some (ad.add k)) := hX 3 4 (by kernel_rfl)
        have z_ : wx.cell? (ad.add k) = some (.int .u8 x) := HCX.out wx hG
        refine val_ (w1 := wx) (v := .int .u8 x) (by rfl) rfl ?_ (hK.out _ _ _ rfl (Below.refl _ _) rfl)
        go_simp
      · have e5 : X 5 = .int .u8 x := hX 3 5 (by kernel_rfl)
        refine val_ (w1 := wx) (v := .int .u8 y1) (by rfl) rfl ?_ (hK.out _ _ _ rfl (Below.refl _ _) rfl)
        go_simp
      · refine val_ (w1 := wx) (v := .slice (some ad) n c) (by rfl) rfl ?_ (hK.out _ _ _ rfl (Below.refl _ _) rfl)
        go_simp
      · refine val_ (w1 := wx) (v := .int .i64 (k : Int)) (by rfl) rfl ?_ (hK.out _ _ _ rfl (Below.refl _ _) rfl)
        go_simp
      · have e7 : X 7 = .slice (some ad) n c := hX 3 7 (by kernel_rfl)
        have e8 : X 8 = .int .i64 (k : Int) := hX 3 8 (by kernel_rfl)
        have r_ := HLT.out
        refine val_ (w1 := wx) (v := .pointer (some (ad.add k))) (by rfl) rfl ?_ (hK.out _ _ _ rfl (Below.refl _ _) rfl)
        go_simp
      · have e9 : X 9 = .pointer (some (ad.add k)) := hX 3 9 (by kernel_rfl)
        have z_ : wx.cell? (ad.add k) = some (.int .u8 x) := HCX.out wx hG
        refine val_ (w1 := wx) (v := .int .u8 x) (by rfl) rfl ?_ (hK.out _ _ _ rfl (Below.refl _ _) rfl)
        go_simp
      · have e10 : X 10 = .int .u8 x := hX 3 10 (by kernel_rfl)
        refine val_ (w1 := wx) (v := .int .u8 y1) (by rfl) rfl ?_ (hK.out _ _ _ rfl (Below.refl _ _) rfl)
        go_simp
      · have e11 : X 11 = .int .u8 y1 := hX 3 11 (by kernel_rfl)
        refine val_ (w1 := wx) (v := .int .u8 (y1 + 1)) (by rfl) rfl ?_ (hK.out _ _ _ rfl (Below.refl _ _) rfl)
        go_simp
      · have e1 : X 1 = .string ⟨#[48, 49, 50, 51, 52, 53, 54, 55, 56, 57, 97, 98, 99, 100, 101, 102]⟩ := hX 3 1 (by kernel_rfl)
        have e6 : X 6 = .int .u8 y1 := hX 3 6 (by kernel_rfl)
        have e12 : X 12 = .int .u8 (y1 + 1) := hX 3 12 (by kernel_rfl)
        refine val_ (w1 := wx) (v := .string (strOfNums [sg y1])) (by rfl) rfl ?_ (hK.out _ _ _ rfl (Below.refl _ _) rfl)
        go_simp
      · refine val_ (w1 := wx) (v := .string ⟨#[48, 49, 50, 51, 52, 53, 54, 55, 56, 57, 97, 98, 99, 100, 101, 102]⟩) (by rfl) rfl ?_ (hK.out _ _ _ rfl (Below.refl _ _) rfl)
        go_simp
      · refine val_ (w1 := wx) (v := .slice (some ad) n c) (by rfl) rfl ?_ (hK.out _ _ _ rfl (Below.refl _ _) rfl)
        go_simp
      · refine val_ (w1 := wx) (v := .int .i64 (k : Int)) (by rfl) rfl ?_ (hK.out _ _ _ rfl (Below.refl _ _) rfl)
        go_simp
      · have e15 : X 15 = .slice (some ad) n c := hX 3 15 (by kernel_rfl)
        have e16 : X 16 = .int .i64 (k : Int) := hX 3 16 (by kernel_rfl)
        have r_ := HLT.out
        refine val_ (w1 := wx) (v := .pointer (some (ad.add k))) (by rfl) rfl ?_ (hK.out _ _ _ rfl (Below.refl _ _) rfl)
        go_simp
      · have e17 : X 17 = .pointer (some (ad.add k)) := hX 3 17 (by kernel_rfl)
        have z_ : wx.cell? (ad.add k) = some (.int .u8 x) := HCX.out wx hG
        refine val_ (w1 := wx) (v := .int .u8 x) (by rfl) rfl ?_ (hK.out _ _ _ rfl (Below.refl _ _) rfl)
        go_simp
      · have e18 : X 18 = .int .u8 x := hX 3 18 (by kernel_rfl)
        refine val_ (w1 := wx) (v := .int .u8 y2) (by rfl) rfl ?_ (hK.out _ _ _ rfl (Below.refl _ _) rfl)
        go_simp
      · refine val_ (w1 := wx) (v := .slice (some ad) n c) (by rfl) rfl ?_ (hK.out _ _ _ rfl (Below.refl _ _) rfl)
        go_simp
      · refine val_ (w1 := wx) (v := .int .i64 (k : Int)) (by rfl) rfl ?_ (hK.out _ _ _ rfl (Below.refl _ _) rfl)
        go_simp
      · have e20 : X 20 = .slice (some ad) n c := hX 3 20 (by kernel_rfl)
        have e21 : X 21 = .int .i64 (k : Int) := hX 3 21 (by kernel_rfl)
        have r_ := HLT.out
        refine val_ (w1 := wx) (v := .pointer (some (ad.add k))) (by rfl) rfl ?_ (hK.out _ _ _ rfl (Below.refl _ _) rfl)
        go_simp
      · have e22 : X 22 = .pointer (some (ad.add k)) := hX 3 22 (by kernel_rfl)
        have z_ : wx.cell? (ad.add k) = some (.int .u8 x) := HCX.out wx hG
        refine val_ (w1 := wx) (v := .int .u8 x) (by rfl) rfl ?_ (hK.out _ _ _ rfl (Below.refl _ _) rfl)
        go_simp
      · have e23 : X 23 = .int .u8 x := hX 3 23 (by kernel_rfl)
        refine val_ (w1 := wx) (v := .int .u8 y2) (by rfl) rfl ?_ (hK.out _ _ _ rfl (Below.refl _ _) rfl)
        go_simp
      · have e24 : X 24 = .int .u8 y2 := hX 3 24 (by kernel_rfl)
        refine val_ (w1 := wx) (v := .int .u8 (y2 + 1)) (by rfl) rfl ?_ (hK.out _ _ _ rfl (Below.refl _ _) rfl)
        go_simp
      · have e14 : X 14 = .string ⟨#[48, 49, 50, 51, 52, 53, 54, 55, 56, 57, 97, 98, 99, 100, 101, 102]⟩ := hX 3 14 (by kernel_rfl)
        have e19 : X 19 = .int .u8 y2 := hX 3 19 (by kernel_rfl)
        have e25 : X 25 = .int .u8 (y2 + 1) := hX 3 25 (by kernel_rfl)
        refine val_ (w1 := wx) (v := .string (strOfNums [sg y2])) (by rfl) rfl ?_ (hK.out _ _ _ rfl (Below.refl _ _) rfl)
        go_simp
      · have e13 : X 13 = .string (strOfNums [sg y1]) := hX 3 13 (by kernel_rfl)
        have e26 : X 26 = .string (strOfNums [sg y2]) := hX 3 26 (by kernel_rfl)
        refine val_ (w1 := wx) (v := .string (strOfNums [sg y1, sg y2])) (by rfl) rfl ?_ (hK.out _ _ _ rfl (Below.refl _ _) rfl)
        go_simp
        rw [if_neg (by rw [str_size, str_size]; simp), str_app]
        rfl
      · have e0 : X 0 = .string (strOfNums acc) := hX 3 0 (by kernel_rfl)
        have e27 : X 27 = .string (strOfNums [sg y1, sg y2]) := hX 3 27 (by kernel_rfl)
        refine val_ (w1 := wx) (v := .string (strOfNums (acc ++ [sg y1, sg y2]))) (by rfl) rfl ?_ (hK.out _ _ _ rfl (Below.refl _ _) rfl)
        go_simp
        rw [if_neg (by rw [str_size, str_size]; have := HAC.out; simp; omega), str_app]
      intro X wx hG hX
      have e28 : X 28 = .string (strOfNums (acc ++ [sg y1, sg y2])) := hX 28 (by decide)
      refine tail_ (i := 29) (N := some 4) #[true, true, true, true, true, true, true, true, true, true, true, true, true, true, true, true, true, true, true, true, true, true, true, true, true, true, true, true, true, true] rfl rfl (by kernel_rfl) (fun K hK => ?_)
      clear hX
      refine val_ (w1 := wx) (v := .string (strOfNums (acc ++ [sg y1, sg y2]))) (by rfl) rfl ?_ (hK.out _ _ (tail_done (by kernel_rfl) ?_))
      · go_simp
      have HG := Aside0.mk (below_step B.out hG)
      clear e28 hG B hK K
      go_wp2
      go_roundw
      case rel => exact ⟨k + 1, by omega, rfl, by rw [HT.out], HG⟩
      case measure => simp [intOf]; omega
    · obtain rfl : k = n := by omega
      have d0 : decide ((k : Int) < (k : Int)) = false := by simp
      have et : l.take k = l := List.take_of_length_le (by rw [HLN.out]; omega)
      rw [et]
      go_wp2
      go_ret
      exact ⟨rfl, B.out⟩
end Go.Proofs.Ytjffbdgidddbjaa
