/- Keys that are texts of ten figures stand in the order of their numbers. Plain lists. -/
import Derived.Test.YtbifanoiailjoaaFigBase
import Derived.Test.YtbifanoiailjoaaRateMU
import Derived.Test.YtbifanoiailjoaaRateMS
namespace Go.Proofs.Ytbifanoiailjoaa.MRatePlays
open Go.RowKit Go.Proofs.YtbifanoiailjoaaW.PrintWords Go.Proofs.YtbifanoiailjoaaW.PrintLast Go.Proofs.YtbifanoiailjoaaW.PrintMore Go.Proofs.Ytbifanoiailjoaa.Base
set_option linter.unusedVariables false
set_option linter.unusedSimpArgs false

def u8s (l : List Int) : List UInt8 := (strOfNums l).toList
theorem u8s_nil : u8s [] = [] := by unfold u8s; rw [ByteArray.toList_eq]; rfl
theorem u8s_cons (a : Int) (l : List Int) : u8s (a :: l) = u8s [a] ++ u8s l := by
  unfold u8s
  rw [ByteArray.toList_eq, ByteArray.toList_eq, ByteArray.toList_eq]
  simp [strOfNums]
theorem u8s_one (a : Int) (h : 48 ≤ a ∧ a ≤ 57) : ∃ c : UInt8, u8s [a] = [c] ∧ (c.toNat : Int) = a := by
  unfold u8s
  rw [ByteArray.toList_eq]
  refine ⟨_, by simp [strOfNums]; rfl, ?_⟩
  simp
  omega
theorem lv_acc (l : List Int) : ∀ acc : Int, l.foldl (fun a d => a * 10 + (d - 48)) acc = acc * 10 ^ l.length + lv l := by
  induction l with
  | nil => intro acc; simp [lv]
  | cons d l ih =>
    intro acc
    show l.foldl _ (acc * 10 + (d - 48)) = acc * 10 ^ (l.length + 1) + lv (d :: l)
    have h2 : lv (d :: l) = l.foldl (fun a d => a * 10 + (d - 48)) (0 * 10 + (d - 48)) := rfl
    rw [h2, ih, ih, Int.pow_succ]
    have : (0 : Int) * 10 + (d - 48) = d - 48 := by omega
    rw [this, Int.add_mul, Int.mul_assoc, Int.mul_comm 10 (10 ^ l.length)]
    omega
theorem lv_cons (d : Int) (l : List Int) : lv (d :: l) = (d - 48) * 10 ^ l.length + lv l := by
  have h := lv_acc l (0 * 10 + (d - 48))
  have this : (0 : Int) * 10 + (d - 48) = d - 48 := by omega
  rw [this] at h
  exact (congrArg (fun z => l.foldl (fun a d => a * 10 + (d - 48)) z) this).trans h
theorem lv_bd (l : List Int) (h : ∀ x ∈ l, 48 ≤ x ∧ x ≤ 57) : 0 ≤ lv l ∧ lv l < 10 ^ l.length := by
  induction l with
  | nil => simp [lv]
  | cons d l ih =>
    obtain ⟨h1, h2⟩ := ih (fun x hx => h x (List.mem_cons_of_mem _ hx))
    have hd := h d List.mem_cons_self
    rw [lv_cons, List.length_cons, Int.pow_succ]
    have hp : (0 : Int) < 10 ^ l.length := Int.pow_pos (by decide)
    have h3 : 0 ≤ (d - 48) * 10 ^ l.length := Int.mul_nonneg (by omega) (by omega)
    have h4 : (d - 48) * 10 ^ l.length ≤ 9 * 10 ^ l.length := Int.mul_le_mul_of_nonneg_right (by omega) (by omega)
    generalize 10 ^ l.length = P at *
    generalize (d - 48) * P = M at *
    omega
theorem less_lv : ∀ (x y : List Int), x.length = y.length → (∀ a ∈ x, 48 ≤ a ∧ a ≤ 57) → (∀ a ∈ y, 48 ≤ a ∧ a ≤ 57) → Op.bytesLess (u8s x) (u8s y) = decide (lv x < lv y)
  | [], [], _, _, _ => by rw [u8s_nil]; rfl
  | a :: x, b :: y, hl, hx, hy => by
    have hl' : x.length = y.length := by simpa using hl
    have ih := less_lv x y hl' (fun z hz => hx z (List.mem_cons_of_mem _ hz)) (fun z hz => hy z (List.mem_cons_of_mem _ hz))
    have ha := hx a List.mem_cons_self
    have hb := hy b List.mem_cons_self
    obtain ⟨ca, ea, va⟩ := u8s_one a ha
    obtain ⟨cb, eb, vb⟩ := u8s_one b hb
    obtain ⟨p1, p2⟩ := lv_bd x (fun z hz => hx z (List.mem_cons_of_mem _ hz))
    obtain ⟨q1, q2⟩ := lv_bd y (fun z hz => hy z (List.mem_cons_of_mem _ hz))
    rw [u8s_cons a x, u8s_cons b y, ea, eb, List.singleton_append, List.singleton_append, Op.bytesLess, ih, lv_cons, lv_cons, hl']
    rw [hl'] at p2
    have hP : (0 : Int) < 10 ^ y.length := Int.pow_pos (by decide)
    by_cases h1 : a < b
    · have c1 : ca < cb := by rw [UInt8.lt_iff_toNat_lt]; omega
      have h3 : (a - 48 + 1) * 10 ^ y.length ≤ (b - 48) * 10 ^ y.length := Int.mul_le_mul_of_nonneg_right (by omega) (by omega)
      rw [Int.add_mul, Int.one_mul] at h3
      have h4 : (a - 48) * 10 ^ y.length + lv x < (b - 48) * 10 ^ y.length + lv y := by
        generalize (10 : Int) ^ y.length = P at *
        generalize (a - 48) * P = M at *
        generalize (b - 48) * P = N at *
        omega
      rw [decide_eq_true c1, decide_eq_true h4]
      rfl
    · by_cases h2 : a = b
      · subst h2
        have c0 : ca = cb := UInt8.toNat_inj.1 (by omega)
        subst c0
        have c1 : ¬ ca < ca := fun q => by rw [UInt8.lt_iff_toNat_lt] at q; omega
        rw [decide_eq_false c1, Bool.false_or, beq_self_eq_true, Bool.true_and]
        by_cases q : lv x < lv y
        · rw [decide_eq_true q, decide_eq_true (by omega)]
        · rw [decide_eq_false q, decide_eq_false (by omega)]
      · have c1 : ¬ ca < cb := fun q => by rw [UInt8.lt_iff_toNat_lt] at q; omega
        have c2 : (ca == cb) = false := by
          rw [beq_eq_false_iff_ne]
          rintro rfl
          omega
        have h3 : (b - 48 + 1) * 10 ^ y.length ≤ (a - 48) * 10 ^ y.length := Int.mul_le_mul_of_nonneg_right (by omega) (by omega)
        rw [Int.add_mul, Int.one_mul] at h3
        have h4 : ¬ (a - 48) * 10 ^ y.length + lv x < (b - 48) * 10 ^ y.length + lv y := by
          generalize (10 : Int) ^ y.length = P at *
          generalize (a - 48) * P = M at *
          generalize (b - 48) * P = N at *
          omega
        rw [decide_eq_false c1, c2, decide_eq_false h4]
        rfl
def U32 (k : Int) : Prop := 0 ≤ k ∧ k ≤ 4294967295
def raw10 (k : Int) : ByteArray := strOfNums (rawV k.toNat 10)
theorem raw10_len (k : Int) (h : U32 k) : (rawV k.toNat 10).length = 10 := by
  have := digs_len k.toNat 10 (by unfold U32 at h; omega)
  rw [rawV_len]
  omega
theorem lts_raw (a b : Int) (ha : U32 a) (hb : U32 b) : lts (raw10 a) (raw10 b) = ltu a b := by
  have h := less_lv (rawV a.toNat 10) (rawV b.toNat 10) (by rw [raw10_len a ha, raw10_len b hb]) (rawV_figs _ _) (rawV_figs _ _)
  rw [lv_raw, lv_raw] at h
  unfold lts ltu raw10
  rw [show (strOfNums (rawV a.toNat 10)).toList = u8s (rawV a.toNat 10) from rfl, show (strOfNums (rawV b.toNat 10)).toList = u8s (rawV b.toNat 10) from rfl, h]
  unfold U32 at ha hb
  congr 1
  rw [Int.toNat_of_nonneg ha.1, Int.toNat_of_nonneg hb.1]
theorem cps_raw (a b : Int) (ha : U32 a) (hb : U32 b) : cps (raw10 a) (raw10 b) = cpu a b := by
  unfold cps cpu
  rw [lts_raw a b ha hb, lts_raw b a hb ha]
end Go.Proofs.Ytbifanoiailjoaa.MRatePlays
