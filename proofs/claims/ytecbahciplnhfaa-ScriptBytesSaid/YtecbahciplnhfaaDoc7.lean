/-
  A row of bytes where a box of an act is filled.
-/
import Derived.Test.YtecbahciplnhfaaMemBase
namespace Go.Proofs.Ytecbahciplnhfaa
open Go.RowKit Go.Proofs.YtecbahciplnhfaaW.PrintWords Go.Proofs.YtecbahciplnhfaaW.PrintLast
theorem C_fill7 {w : World} {A B : Option Addr} {n g t x y : Nat} {l : List Int} (h : Kd.C (Kd.int .u8) w A n l) (hb : w.heap[g]? = some (.cells #[.int .i64 0, .int .i64 0, .int .u64 0, .int .u32 0, .int .i64 0, .int .i64 0, .slice none 0 0] t (0, 0))) (a b c d e f : Int) :
    Kd.C (Kd.int .u8) (((((((w.setCell ⟨g, 0, none⟩ (.int .i64 a)).setCell ⟨g, 1, none⟩ (.int .i64 b)).setCell ⟨g, 2, none⟩ (.int .u64 c)).setCell ⟨g, 3, none⟩ (.int .u32 d)).setCell ⟨g, 4, none⟩ (.int .i64 e)).setCell ⟨g, 5, none⟩ (.int .i64 f)).setCell ⟨g, 6, none⟩ (.slice B x y)) A n l := by
  have s0 := blk_set hb 0 (.int .i64 a)
  have s1 := blk_set s0 1 (.int .i64 b)
  have s2 := blk_set s1 2 (.int .u64 c)
  have s3 := blk_set s2 3 (.int .u32 d)
  have s4 := blk_set s3 4 (.int .i64 e)
  have s5 := blk_set s4 5 (.int .i64 f)
  exact C_setInt (C_setInt (C_setInt (C_setInt (C_setInt (C_setInt (C_setInt h hb (by simp)) s0 (by simp)) s1 (by simp)) s2 (by simp)) s3 (by simp)) s4 (by simp)) s5 (by simp)
end Go.Proofs.Ytecbahciplnhfaa
