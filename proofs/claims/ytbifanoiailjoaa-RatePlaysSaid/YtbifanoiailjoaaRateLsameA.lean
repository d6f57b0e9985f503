/- What the two say of the oldest and of a key, once. -/
import Derived.Test.YtbifanoiailjoaaRateRefSet
import Derived.Test.YtbifanoiailjoaaRateMU
namespace Go.Proofs.Ytbifanoiailjoaa.MRatePlays
open Go.RowKit Go.Proofs.YtbifanoiailjoaaW.PrintWords Go.Proofs.YtbifanoiailjoaaW.PrintLast Go.Proofs.YtbifanoiailjoaaW.PrintMore Go.Proofs.Ytbifanoiailjoaa.Base
set_option linter.unusedVariables false
set_option linter.unusedSimpArgs false

theorem rd94_get (l : List S94) (i : Nat) (hi : i < l.length) : rd_T94 l (i : Int) = l[i] := by
  unfold rd_T94
  rw [Int.toNat_natCast, List.getD_eq_getElem?_getD, List.getElem?_eq_getElem hi]
  rfl
theorem old_any (es : List S37) (l : List S94) (room span : Int) (hI : Invu es room) (hr2 : room ≤ 1024) (hRef : Ref es l) : ∃ (x : S37) (hs : Bool) (at_ : Int), (∀ W g b, Tabu W g b es room span → Calls Try.prog 55 #[.pointer (some ⟨g, 0, none⟩)] W fun e W' => e = .returned (.tuple #[.agg #[.int .u32 x.f0, .int .i64 x.f1, .bool x.f2], .bool hs]) ∧ Below W.heap.size W W') ∧ Ev (fun k => horologeref31_Oldest.f k l room span) at_ ∧ ((hs = false ∧ at_ = -1) ∨ (hs = true ∧ ∃ i : Nat, i < l.length ∧ at_ = (i : Int) ∧ rd_T94 l (i : Int) = to94 x)) := by
  have hlen := hRef.len
  have hml : es.length ≤ 1000000 := by have := hI.len; omega
  obtain ⟨at_, hev, hc⟩ := oldest_is l room span (by omega)
  rcases es with _ | ⟨e0, er⟩
  · refine ⟨⟨0, 0, false⟩, false, at_, fun W g b hW => oldestu_none W g b room span hW, hev, .inl ⟨rfl, ?_⟩⟩
    rcases hc with ⟨h, _⟩ | ⟨i, _, hi, _⟩
    · exact h
    · rw [hlen] at hi
      simp at hi
  · refine ⟨minu e0 er, true, at_, fun W g b hW => oldestu_c W g b e0 er room span hW hml, hev, .inr ⟨rfl, ?_⟩⟩
    rcases hc with ⟨_, h⟩ | ⟨i, h, hi, hm⟩
    · rw [h] at hlen
      simp at hlen
    · exact ⟨i, hi, h, (rd94_get l i hi).trans (oldest_rel e0 er l hI.rise hRef i hi hm)⟩
theorem ent_any (es : List S37) (l : List S94) (room span key : Int) (hI : Invu es room) (hr2 : room ≤ 1024) (hRef : Ref es l) : ∃ (x : S37) (hs : Bool) (t : Int), (∀ W g b, Tabu W g b es room span → Calls Try.prog 11 #[.pointer (some ⟨g, 0, none⟩), .int .u32 key] W fun e W' => e = .returned (.tuple #[.agg #[.int .u32 x.f0, .int .i64 x.f1, .bool x.f2], .bool hs]) ∧ Below W.heap.size W W') ∧ findV l key = t ∧ ((hs = false ∧ t = -1 ∧ x = ⟨0, 0, false⟩) ∨ (hs = true ∧ x.f0 = key ∧ ∃ i : Nat, i < l.length ∧ t = (i : Int) ∧ rd_T94 l (i : Int) = to94 x)) := by
  have hml : es.length ≤ 1000000 := by have := hI.len; omega
  rcases find_rel es l key hI.rise hRef with ⟨h1, h2⟩ | ⟨i, hi, h1, h2, h3⟩
  · exact ⟨⟨0, 0, false⟩, false, -1, fun W g b hW => entryu_none W g b es room span key hW hI.rise hml h2, h1, .inl ⟨rfl, rfl, rfl⟩⟩
  · exact ⟨rd_T37 es (lowu es key), true, i, fun W g b hW => entryu_has W g b es room span key hW hI.rise hml h2, h1, .inr ⟨rfl, hasu_key es key h2, i, hi, rfl, (rd94_get l i hi).trans h3⟩⟩
theorem sortr_c (w : World) (A : Option Addr) (c : Nat) (es : List S37) (l : List S94) (room span : Int) (hC : Kd.C k94 w A l.length l) (hc : l.length ≤ c) (hI : Invu es room) (hr2 : room ≤ 1024) (hRef : Ref es l) :
    Calls Try.prog 52 #[.agg #[.slice A l.length c, .int .i64 room, .int .i64 span]] w fun e w' => ∃ (B : Option Addr) (c' : Nat), e = .returned (.slice B es.length c') ∧ Kd.V k94 94 w' 0 (fun _ => True) (.slice B es.length c') (es.map to94) ∧ Below w.heap.size w w' := by
  have hlen := hRef.len
  obtain ⟨k, hk⟩ := Ev.ok (sorted_is l room span (by have := hI.len; omega))
  rw [sorted_rel es l hI.rise hRef] at hk
  refine (horologeref31_Sorted.calls k A c l room span _ w hC hc hk).mono ?_
  rintro e w' ⟨v, rfl, hR, hb⟩
  have hV : Kd.V k94 94 w' 0 (fun _ => True) v (es.map to94) := Kd.R_V hR
  obtain ⟨B, c', rfl⟩ := Kd.V_slice hV
  rw [List.length_map] at hV ⊢
  exact ⟨B, c', rfl, hV, hb⟩
theorem v94_at {W : World} {P : Nat → Prop} {A : Option Addr} {n c : Nat} {l : List S94} (h : Kd.V k94 94 W 0 P (.slice A n c) l) (i : Nat) (hi : i < n) : ∃ ad, A = some ad ∧ W.cell? (ad.add (i * 3)) = some (.int .u32 (rd_T94 l (i : Int)).f0) ∧ W.cell? ⟨(ad.add (i * 3)).block, (ad.add (i * 3)).off + 1, none⟩ = some (.int .i64 (rd_T94 l (i : Int)).f1) ∧ W.cell? ⟨(ad.add (i * 3)).block, (ad.add (i * 3)).off + 2, none⟩ = some (.bool (rd_T94 l (i : Int)).f2) := by
  obtain ⟨hn, hc, hC⟩ := Kd.V_reads' h
  have := at_T94 hC (i : Int) (by omega) (by omega)
  rw [Int.toNat_natCast] at this
  exact this
theorem wanted_undef {ops : Array Oper} {oi : Oper} {tmps : Array Value} {g d : Nat} {b : Bool} (hg : oi.guard = some (g, b)) (hd : (ops[g]?).bind (·.dst) = some d) (ht : tmps[d]? = some undef) : Region.wanted oi (yielded ops tmps) = false := by
  unfold Region.wanted yielded
  rw [hg]
  simp [hd, ht, undef]
def C3 (W : World) (n m : Nat) (x : S37) : Prop := W.cell? ⟨n, m * 3, none⟩ = some (.int .u32 x.f0) ∧ W.cell? ⟨n, m * 3 + 1, none⟩ = some (.int .i64 x.f1) ∧ W.cell? ⟨n, m * 3 + 2, none⟩ = some (.bool x.f2) ∧ W.frozen? ⟨n, m * 3 + 1, none⟩ = false
theorem C3.below {W W' : World} {n m : Nat} {x : S37} (h : C3 W n m x) (hb : Below W.heap.size W W') : C3 W' n m x :=
  ⟨(hb.cell (World.block_lt_of_cell? W _ h.1)).trans h.1, (hb.cell (World.block_lt_of_cell? W _ h.2.1)).trans h.2.1, (hb.cell (World.block_lt_of_cell? W _ h.2.2.1)).trans h.2.2.1, (hb.frozen (World.block_lt_of_cell? W _ h.2.1)).trans h.2.2.2⟩
theorem C3.set {W : World} {n m j : Nat} {x : S37} (h : C3 W n m x) (hj : j + 1 ≤ m) (v : Value) : C3 (W.setCell ⟨n, j * 3 + 1, none⟩ v) n m x := by
  obtain ⟨h0, h1, h2, h3⟩ := h
  refine ⟨(World.cell?_setCell_other _ _ _ _ ?_).trans h0, (World.cell?_setCell_other _ _ _ _ ?_).trans h1, (World.cell?_setCell_other _ _ _ _ ?_).trans h2, (by rw [World.frozen?_setCell]; exact h3)⟩ <;> (intro q; injection q with _ q2 _; omega)
theorem c3_next {W W' : World} {n j : Nat} {es : List S37} (h : ∀ m (hm : m < es.length), j ≤ m → C3 W n m es[m]) (hb : Below W.heap.size W W') (v : Value) : ∀ m (hm : m < es.length), j + 1 ≤ m → C3 (W'.setCell ⟨n, j * 3 + 1, none⟩ v) n m es[m] := fun m hm hj => ((h m hm (by omega)).below hb).set hj v
theorem slu_at3 {W : World} {g b nb : Nat} {A : Option Addr} {n c : Nat} {es : List S37} {room span : Int} (T : Tabu W g b es room span) (h : Slu W g nb (.slice A n c) es) (j : Nat) (hj : j < es.length) : A = some ⟨nb, 0, none⟩ ∧ nb ≠ g ∧ C3 W nb j es[j] := by
  obtain ⟨sl, hg, _⟩ := T
  rcases h with ⟨_, rfl, _⟩ | ⟨_, c', rest, e, hr, _⟩
  · simp at hj
  · injection e with e1 e2 e3
    have h0 := rowu_cell hr j 0 hj _ rfl (by omega)
    have h1 := rowu_cell hr j 1 hj _ rfl (by omega)
    have h2 := rowu_cell hr j 2 hj _ rfl (by omega)
    rw [rdu_get es j hj] at h0 h1 h2
    refine ⟨e1, ?_, h0, h1, h2, blk_frozen hr _⟩
    rintro rfl
    have hr' : W.heap[nb]? = some (.cells (encsu es ++ rest).toArray 37 (0, 0)) := hr
    rw [hg] at hr'
    injection hr' with q
    injection q with _ q2 _
    exact absurd q2 (by decide)
theorem slu_form {W : World} {g nb : Nat} {v : Value} {es : List S37} (h : Slu W g nb v es) : ∃ A c, v = .slice A es.length c := by
  rcases h with ⟨rfl, rfl, _⟩ | ⟨_, c, rest, rfl, _⟩
  · exact ⟨none, 0, rfl⟩
  · exact ⟨_, _, rfl⟩
theorem a3_one (x : S37) : (#[.int .u32 x.f0, .int .i64 x.f1, .bool x.f2] : Array Value).all Value.oneCell' = true := by simp [Value.oneCell']
theorem wr_succM (j n : Nat) (h : j < n) (hn : n ≤ 1000000) : wrap64 ((j : Int) + 1) = ((j + 1 : Nat) : Int) := by
  rw [wrap64_id (by unfold I64; omega)]
  rfl
end Go.Proofs.Ytbifanoiailjoaa.MRatePlays
