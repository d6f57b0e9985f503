/- The acts that come in. -/
import Derived.Test.YtbifanoiailjoaaRateAlive
import Derived.Test.YtbifanoiailjoaaOpenBase
namespace Go.Proofs.Ytbifanoiailjoaa.MRatePlays
open Go.RowKit Go.Proofs.YtbifanoiailjoaaW.PrintWords Go.Proofs.YtbifanoiailjoaaW.PrintLast Go.Proofs.YtbifanoiailjoaaW.PrintMore Go.Proofs.Ytbifanoiailjoaa.Base
set_option linter.unusedVariables false
set_option linter.unusedSimpArgs false

structure S32 where
  f0 : Int
  f1 : Int
  f2 : Int
  f3 : Int
def z32 : S32 := ⟨0, 0, 0, 0⟩
def k32 : Kd S32 := Kd.iso (Kd.pair (Kd.int .i64) (Kd.pair (Kd.int .u32) (Kd.pair (Kd.int .i64) (Kd.int .i64)))) (fun x : S32 => (x.f0, x.f1, x.f2, x.f3))
theorem k32_open {w : World} {x : S32} {cs : List Value} (h : k32.K w x cs) : cs = [.int .i64 x.f0, .int .u32 x.f1, .int .i64 x.f2, .int .i64 x.f3] := by
  obtain ⟨_, _, rfl, rfl, ⟨_, _, rfl, rfl, ⟨_, _, rfl, rfl, rfl⟩⟩⟩ := h
  exact rfl
def rd_T32 (xs : List S32) (i : Int) : S32 := xs.getD i.toNat z32
theorem at_T32 {w : World} {A : Option Addr} {n : Nat} {xs : List S32} (h : Kd.C k32 w A n xs) (i : Int) (h0 : 0 ≤ i) (h1 : i < n) : ∃ ad , A = some ad ∧ w.cell? (ad.add (i.toNat * 4)) = some (.int .i64 (rd_T32 xs i).f0) ∧ w.cell? ⟨(ad.add (i.toNat * 4)).block, (ad.add (i.toNat * 4)).off + 1, none⟩ = some (.int .u32 (rd_T32 xs i).f1) ∧ w.cell? ⟨(ad.add (i.toNat * 4)).block, (ad.add (i.toNat * 4)).off + 2, none⟩ = some (.int .i64 (rd_T32 xs i).f2) ∧ w.cell? ⟨(ad.add (i.toNat * 4)).block, (ad.add (i.toNat * 4)).off + 3, none⟩ = some (.int .i64 (rd_T32 xs i).f3) := by
  obtain ⟨ad, c, e, _, hK, hc0⟩ := Kd.C_get h z32 i h0 h1
  have hc : ∀ j u, c[j]? = some u → w.cell? (ad.add (i.toNat * 4 + j)) = some u := hc0
  obtain rfl := k32_open hK
  exact ⟨ad, e, hc 0 _ rfl, by rw [← add_field _ _ 1 (by omega)]; exact hc 1 _ rfl, by rw [← add_field _ _ 2 (by omega)]; exact hc 2 _ rfl, by rw [← add_field _ _ 3 (by omega)]; exact hc 3 _ rfl⟩
theorem cut_at32 {α : Type} (cs : List α) (a b : Nat) : cs.drop a = (cs.drop a).take b ++ cs.drop (a + b) := by rw [← List.drop_drop, List.take_append_drop]
def ok32 (x : S32) : Prop := ((Lit.int .i64 x.f0).wf = true) ∧ ((Lit.int .u32 x.f1).wf = true) ∧ ((Lit.int .i64 x.f2).wf = true) ∧ ((Lit.int .i64 x.f3).wf = true)
theorem opens32 (W : World) : OpenBase.Opens Try.prog W 32 k32 ok32 := by
  intro H enc base spare held fuel cs x hx
  obtain ⟨xs, n, _, _, hl0, hlen, hf⟩ := DataW.trod_struct Try.underlying32 hx
  have hl : cs.length = 4 := hl0.trans (by kernel_rfl)
  match xs, hlen with
  | [y0, y1, y2, y3], _ =>
    have g0 : DataW.trod enc Try.prog W base spare held n 3 ((cs.drop 0).take (Try.prog.cellsOf 3)) = some y0 := hf 0 _ rfl
    obtain ⟨a0, k0_, o0⟩ := (OpenBase.opens_int Try.underlying3) enc base spare held n _ _ g0
    rw [show Try.prog.cellsOf 3 = 1 by kernel_rfl] at k0_
    have g1 : DataW.trod enc Try.prog W base spare held n 29 ((cs.drop 1).take (Try.prog.cellsOf 29)) = some y1 := hf 1 _ rfl
    obtain ⟨a1, k1_, o1⟩ := (OpenBase.opens_int Try.underlying29) enc base spare held n _ _ g1
    rw [show Try.prog.cellsOf 29 = 1 by kernel_rfl] at k1_
    have g2 : DataW.trod enc Try.prog W base spare held n 2 ((cs.drop 2).take (Try.prog.cellsOf 2)) = some y2 := hf 2 _ rfl
    obtain ⟨a2, k2_, o2⟩ := (OpenBase.opens_int Try.underlying2) enc base spare held n _ _ g2
    rw [show Try.prog.cellsOf 2 = 1 by kernel_rfl] at k2_
    have g3 : DataW.trod enc Try.prog W base spare held n 3 ((cs.drop 3).take (Try.prog.cellsOf 3)) = some y3 := hf 3 _ rfl
    obtain ⟨a3, k3_, o3⟩ := (OpenBase.opens_int Try.underlying3) enc base spare held n _ _ g3
    rw [show Try.prog.cellsOf 3 = 1 by kernel_rfl] at k3_
    rw [List.take_of_length_le (by rw [List.length_drop, hl]; decide)] at k3_
    exact ⟨⟨a0, a1, a2, a3⟩, ⟨_, _, cut_at32 cs 0 1, k0_, ⟨_, _, cut_at32 cs 1 1, k1_, ⟨_, _, cut_at32 cs 2 1, k2_, k3_⟩⟩⟩, ⟨o0, o1, o2, o3⟩⟩
end Go.Proofs.Ytbifanoiailjoaa.MRatePlays
