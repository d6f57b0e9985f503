/- What the law's round keeps. -/
import Derived.Test.YtbifanoiailjoaaRateLask
import Derived.Test.YtbifanoiailjoaaRateMU
import Derived.Test.YtbifanoiailjoaaRateAlive
namespace Go.Proofs.Ytbifanoiailjoaa.MRatePlays
open Go.RowKit Go.Proofs.YtbifanoiailjoaaW.PrintWords Go.Proofs.YtbifanoiailjoaaW.PrintLast Go.Proofs.YtbifanoiailjoaaW.PrintMore Go.Proofs.Ytbifanoiailjoaa.Base
set_option linter.unusedVariables false
set_option linter.unusedSimpArgs false

structure Inv6 (w W : World) (g gm : Nat) (es : List S37) (b : Nat) (rm sp : Int) (Am : Option Addr) (cm : Nat) (ml : List S94) : Prop where
  tab : Tabu W g b es rm sp
  nb : Nb w.heap.size g b
  bel : Below w.heap.size w W
  inv : Invu es rm
  fit : Fit rm sp
  box : W.heap[gm]? = some (.cells #[.slice Am ml.length cm, .int .i64 rm, .int .i64 sp] 65 (0, 0))
  lst : Kd.V k94 94 W 0 (fun k => k ≠ g ∧ k ≠ b ∧ k ≠ gm) (.slice Am ml.length cm) ml
  ref : Ref es ml
theorem Inv6.below {w W W' : World} {g gm : Nat} {es : List S37} {b : Nat} {rm sp : Int} {Am : Option Addr} {cm : Nat} {ml : List S94} (h : Inv6 w W g gm es b rm sp Am cm ml) (hb : Below W.heap.size W W') : Inv6 w W' g gm es b rm sp Am cm ml :=
  ⟨h.tab.below hb, h.nb, below_step h.bel hb, h.inv, h.fit, blk_below h.box hb, Kd.V_below h.lst hb, h.ref⟩
theorem far65 {W : World} {g b k : Nat} {es : List S37} {room span : Int} {cs : Array Value} (T : Tabu W g b es room span) (hk : W.heap[k]? = some (.cells cs 65 (0, 0))) : k ≠ g ∧ k ≠ b := by
  obtain ⟨sl, hg, hs⟩ := T
  have h1 := ne_types hk hg (by decide)
  rcases hs with ⟨_, _, rfl⟩ | ⟨hn, c, rest, e, hr, hl, hc⟩
  · exact ⟨h1, h1⟩
  · exact ⟨h1, ne_types hk hr (by decide)⟩
theorem Inv6.put {w W W' : World} {g gm : Nat} {es es2 : List S37} {b b2 : Nat} {rm sp rm2 sp2 : Int} {Am A2 : Option Addr} {cm c2 : Nat} {ml l2 : List S94} (h : Inv6 w W g gm es b rm sp Am cm ml) (hgm : w.heap.size ≤ gm)
    (ht : Tabu W' g b2 es2 rm2 sp2) (hb : b2 = b ∨ W.heap.size ≤ b2) (hv : Kd.V k94 94 W' 0 (fun k => ((k ≠ g ∧ k ≠ b ∧ k ≠ gm) ∧ k < W.heap.size) ∨ (W.heap.size ≤ k ∧ k ≠ b2)) (.slice A2 l2.length c2) l2) (hr : Ref es2 l2) (hf : Fr (fun k => k = g ∨ k = b) W W') (hi : Invu es2 rm2) (hfit : Fit rm2 sp2) :
    W'.heap[gm]? = some (.cells #[.slice Am ml.length cm, .int .i64 rm, .int .i64 sp] 65 (0, 0)) ∧ Inv6 w (W'.setRow gm #[.slice A2 l2.length c2, .int .i64 rm2, .int .i64 sp2]) g gm es2 b2 rm2 sp2 A2 c2 l2 := by
  obtain ⟨f1, f2⟩ := far65 h.tab h.box
  have hbox := blk_fr hf h.box f1 f2
  have hlt := blk_lt h.box
  have hg := h.tab.lt
  have hsz := h.bel.size
  refine ⟨hbox, ⟨tab_set65 ht hbox _, h.nb.step hsz hb, ?_, hi, hfit, setRow_heap _ gm _ _ _ _ hbox, ?_, hr⟩⟩
  · exact Nb.below (b := gm) ⟨h.nb.1, hgm⟩ (Nb.below h.nb h.bel hf) ((Fr.refl _ _).set gm _ (.inl (.inr rfl)))
  · refine Kd.V_mono (Kd.V_step hv (fun k hk hl => setRow_ne _ _ _ _ (by omega))) (fun k hk => by omega)
theorem Inv6.asked {w W W' : World} {g gm : Nat} {es es2 : List S37} {b b2 : Nat} {rm sp : Int} {Am A2 : Option Addr} {cm c2 : Nat} {ml l2 : List S94} (h : Inv6 w W g gm es b rm sp Am cm ml) (hgm : w.heap.size ≤ gm)
    (ht : Tabu W' g b2 es2 rm sp) (hb : b2 = b ∨ W.heap.size ≤ b2) (hv : Kd.V k94 94 W' 0 (fun k => ((k ≠ g ∧ k ≠ b ∧ k ≠ gm) ∧ k < W.heap.size) ∨ (W.heap.size ≤ k ∧ k ≠ b2)) (.slice A2 l2.length c2) l2) (hr : Ref es2 l2) (hf : Fr (fun k => k = g ∨ k = b) W W') (hi : Invu es2 rm) :
    W'.heap[gm]? = some (.cells #[.slice Am ml.length cm, .int .i64 rm, .int .i64 sp] 65 (0, 0)) ∧ Inv6 w (W'.setRow gm #[.slice A2 l2.length c2, .int .i64 rm, .int .i64 sp]) g gm es2 b2 rm sp A2 c2 l2 := h.put hgm ht hb hv hr hf hi h.fit
/-- The entries are other than they were; the document's are not. -/
theorem Inv6.kept {w W W' : World} {g gm : Nat} {es es2 : List S37} {b : Nat} {rm sp : Int} {Am : Option Addr} {cm : Nat} {ml : List S94} (h : Inv6 w W g gm es b rm sp Am cm ml)
    (ht : Tabu W' g b es2 rm sp) (hf : Fr (fun k => k = g ∨ k = b) W W') (hr : Ref es2 ml) (hi : Invu es2 rm) : Inv6 w W' g gm es2 b rm sp Am cm ml := by
  obtain ⟨f1, f2⟩ := far65 h.tab h.box
  refine ⟨ht, h.nb, Nb.below h.nb h.bel hf, hi, h.fit, blk_fr hf h.box f1 f2, ?_, hr⟩
  exact Kd.V_mono (Kd.V_step (Kd.V_bound h.lst) (fun k hk hl => hf.block k hk.2 (fun q => by rcases q with q | q; exact hk.1.1 q; exact hk.1.2.1 q))) (fun k hk => hk.1)
/-- The box's own row is laid anew. -/
theorem Inv6.same {w W : World} {g gm : Nat} {es : List S37} {b : Nat} {rm sp : Int} {Am : Option Addr} {cm : Nat} {ml : List S94} (h : Inv6 w W g gm es b rm sp Am cm ml) (hgm : w.heap.size ≤ gm) : Inv6 w (W.setRow gm #[.slice Am ml.length cm, .int .i64 rm, .int .i64 sp]) g gm es b rm sp Am cm ml :=
  (h.put hgm h.tab (.inl rfl) (Kd.V_mono (Kd.V_bound h.lst) (fun _ hk => .inl hk)) h.ref (Fr.refl _ _) h.inv h.fit).2
/-- An entry is taken out of both. -/
theorem Inv6.wout {w W W1 W2 : World} {g gm : Nat} {es es2 : List S37} {b base : Nat} {rm sp : Int} {Am A2 : Option Addr} {cm c2 : Nat} {ml l2 : List S94} (h : Inv6 w W g gm es b rm sp Am cm ml) (hgm : w.heap.size ≤ gm)
    (ht : Tabu W1 g b es2 rm sp) (hf : Fr (fun k => k = g ∨ k = b) W W1) (hb : Below W1.heap.size W1 W2) (hv : Kd.V k94 94 W2 base (fun k => W1.heap.size ≤ k) (.slice A2 l2.length c2) l2) (hr : Ref es2 l2) (hi : Invu es2 rm) :
    W2.heap[gm]? = some (.cells #[.slice Am ml.length cm, .int .i64 rm, .int .i64 sp] 65 (0, 0)) ∧ Inv6 w (W2.setRow gm #[.slice A2 l2.length c2, .int .i64 rm, .int .i64 sp]) g gm es2 b rm sp A2 c2 l2 := by
  have hs := hf.size
  have hg := h.tab.lt
  exact h.asked hgm (ht.below hb) (.inl rfl) (show Kd.V k94 94 W2 0 _ _ _ from Kd.V_mono (show Kd.V k94 94 W2 0 _ _ _ from hv) (fun k hk => .inr ⟨Nat.le_trans hs hk, fun e => by rw [e] at hk; omega⟩)) hr (hf.trans (Fr.ofBelow hb) (fun j hj => .inl hj)) hi
theorem fgt_len (es : List S37) (key : Int) : (fgtu es key).length ≤ es.length := by
  unfold fgtu
  split
  · rw [List.length_append, List.length_take, List.length_drop]
    omega
  · exact Nat.le_refl _
theorem fgt_sub (es : List S37) (key : Int) : (fgtu es key).Sublist es := by
  unfold fgtu
  split
  · have h : (es.take (lowu es key) ++ es.drop (lowu es key + 1)).Sublist (es.take (lowu es key) ++ es.drop (lowu es key)) := (List.Sublist.refl _).append (by first | exact List.drop_sublist_drop_left _ (Nat.le_succ _) | (rw [← List.drop_drop]; exact List.drop_sublist _ _))
    rwa [List.take_append_drop] at h
  · exact List.Sublist.refl _
theorem fgt_inv (es : List S37) (key rm : Int) (h : Invu es rm) : Invu (fgtu es key) rm :=
  ⟨h.rise.sublist (fgt_sub es key), fun x hx => h.ats x ((fgt_sub es key).subset hx), by have h1 := fgt_len es key; have h2 := h.len; omega⟩
theorem cut_inv (es : List S37) (rm : Int) (n : Nat) (h : Invu es rm) : Invu (cutu (es.length - n) es) n :=
  ⟨cutu_rise _ es h.rise, fun x hx => h.ats x ((cutu_sub _ es).subset hx), by have h1 := cutu_len (es.length - n) es h.rise (by omega); omega⟩
end Go.Proofs.Ytbifanoiailjoaa.MRatePlays
