/-
  SHA-1: a text's digest, walked by hand: all its whole blocks, then what is left of it with the mark, noughts and the length.
-/
import Derived.Test.YtjffbdgidddbjaaShaChunk
namespace Go.Proofs.Ytjffbdgidddbjaa
set_option linter.unusedVariables false
set_option linter.unusedSimpArgs false
set_option linter.unnecessarySimpa false
open Go.RowKit Go.Proofs.YtjffbdgidddbjaaW.PrintWords Go.Proofs.YtjffbdgidddbjaaW.PrintLast Go.Proofs.YtjffbdgidddbjaaW.PrintMore Go.Proofs.Ytjffbdgidddbjaa.MSha1Sums Go.Proofs.Ytjffbdgidddbjaa.Base
def Halted (p : Prop) : Prop := p
theorem halt_ {p : Prop} (h : Halted p) : p := h
def INIT : St := (1732584193, 4023233417, 2562383102, 271733878, 3285377520)
/-- How many blocks the end has. -/
def MB (n : Nat) : Nat := if n % 64 < 56 then 1 else 2
/-- The end's bytes: what is left, the mark, noughts, the length. -/
def TAILB (l : List Int) : List Int := l.drop (l.length / 64 * 64) ++ (128 :: (List.replicate (MB l.length * 64 - 9 - l.length % 64) 0 ++ BE 8 (8 * l.length)))
def DIG (l : List Int) : St := FD (FD INIT l (l.length / 64)) (TAILB l) (MB l.length)
/-- The state behind some blocks, in whatever order they are told. -/
def FDX {q : Nat} (s : St) (l : List Int) (xs : List (Fin q)) : St := xs.foldl (fun s x => STEP s ((l.drop (x.val * 64)).take 64)) s
theorem FDX_snoc {q : Nat} (s : St) (l : List Int) (xs : List (Fin q)) (x : Fin q) : FDX s l (xs ++ [x]) = STEP (FDX s l xs) ((l.drop (x.val * 64)).take 64) := by simp [FDX]
theorem FD_range (s : St) (l : List Int) : ∀ q, (List.range q).foldl (fun s j => STEP s ((l.drop (j * 64)).take 64)) s = FD s l q
  | 0 => rfl
  | q + 1 => by rw [List.range_succ, List.foldl_append, FD_range s l q]; rfl
theorem FDX_all {q : Nat} (s : St) (l : List Int) (xs : List (Fin q)) (h : xs.map Fin.val = List.range q) : FDX s l xs = FD s l q := by
  rw [← FD_range, ← h, List.foldl_map]
  rfl
theorem keep_step {W W1 wz : World} {g : Nat} {cs cs' : Array Value} {t : TypeId} (h1 : W1.heap = W.heap) (hx : W.heap[g]? = some (.cells cs t (0, 0))) (hb : Below W1.heap.size W1 wz) (k : Nat) (o : Obj) (hk : W.heap[k]? = some o) (hne : o ≠ .cells cs t (0, 0)) : (wz.setRow g cs').heap[k]? = some o := by
  have hkg : k ≠ g := fun e => by
    subst e
    rw [hx] at hk
    exact hne (Option.some.inj hk).symm
  rw [setRow_other wz g k cs' hkg]
  have hk1 : W1.heap[k]? = some o := by rw [h1]; exact hk
  exact blk_below hk1 hb
theorem keeps_others {W W1 wz : World} {g : Nat} {cs cs' : Array Value} {t : TypeId} (h1 : W1.heap = W.heap) (hx : W.heap[g]? = some (.cells cs t (0, 0))) (hb : Below W1.heap.size W1 wz) : KeepsOthers W (wz.setRow g cs') :=
  ⟨by rw [setRow_size, ← h1]; exact hb.size, fun k o hk ho => keep_step h1 hx hb k o hk (fun e => by subst e; cases ho)⟩
theorem keeps_boxes {W W1 wz : World} {g Bs Bn : Nat} {cs cs' : Array Value} (h1 : W1.heap = W.heap) (hx : W.heap[g]? = some (.cells cs 28 (0, 0))) (hb : Below W1.heap.size W1 wz) : chunk64.keep Bs Bn W (wz.setRow g cs') :=
  ⟨fun v hv => keep_step h1 hx hb Bs _ hv (fun e => by injection e with e1 e2 e3; cases e2), fun v hv => keep_step h1 hx hb Bn _ hv (fun e => by injection e with e1 e2 e3; cases e2)⟩
theorem byte_cut (l : List Int) (hb : ∀ i, Byte (l.getD i 0)) (m : Nat) : ∀ i, Byte (((l.drop m).take 64).getD i 0) := by
  intro i
  by_cases hi : i < 64
  · have := hb (m + i)
    simp only [List.getD_eq_getElem?_getD] at this ⊢
    rw [List.getElem?_take_of_lt hi, List.getElem?_drop]
    exact this
  · rw [List.getD_eq_getElem?_getD, List.getElem?_eq_none (by simp; omega)]
    exact ⟨by decide, by decide⟩
/-- What stands while the end is laid. -/
structure MID (w : World) (g2 g3 D Wb : Nat) (S : St) (W : World) : Prop where
  h3 : W.heap[g3]? = some (.cells ((L5 S).map (Value.int .u32)).toArray 28 (0, 0))
  h2 : W.heap[g2]? = some (.cells (Array.replicate 20 (.int .u8 0)) 25 (0, 0))
  hD : W.heap[D]? = some (.deferred (some []))
  hB : Below w.heap.size w W
  l2 : g2 < Wb
  l3 : g3 < Wb
  lD : D < Wb
  sz : Wb ≤ W.heap.size
  wb : w.heap.size ≤ Wb
theorem MID.below {w W W' : World} {g2 g3 D Wb : Nat} {S : St} (h : MID w g2 g3 D Wb S W) (hb : Below W.heap.size W W') : MID w g2 g3 D Wb S W' :=
  ⟨blk_below h.h3 hb, blk_below h.h2 hb, blk_below h.hD hb, below_then h.hB h.hB.size hb, h.l2, h.l3, h.lD, Nat.le_trans h.sz hb.size, h.wb⟩
theorem MID.grown {w W W' : World} {g2 g3 D Wb : Nat} {S : St} {row : Option Nat} (h : MID w g2 g3 D Wb S W) (hb : Below w.heap.size w W') (hg : W.grownBy W' row) (hr : ∀ k, row = some k → Wb ≤ k) (hs : W.heap.size ≤ W'.heap.size) : MID w g2 g3 D Wb S W' :=
  ⟨blk_grown h.h3 hg (fun e => by have := hr g3 e.symm; have := h.l3; omega), blk_grown h.h2 hg (fun e => by have := hr g2 e.symm; have := h.l2; omega), blk_grown h.hD hg (fun e => by have := hr D e.symm; have := h.lD; omega), hb, h.l2, h.l3, h.lD, Nat.le_trans h.sz hs, h.wb⟩
theorem MID.drewN {w W : World} {g2 g3 D Wb : Nat} {S : St} (h : MID w g2 g3 D Wb S W) (m : Nat) : MID w g2 g3 D Wb S (W.drewN m) := h.below (pw_below_drewN (Below.refl _ _) m)
theorem blocks_is (n : Nat) (hn : n ≤ 9223372036854775807) : sha1_Blocks.f (n : Int) = some ((n / 64 + MB n : Nat) : Int) := by
  unfold sha1_Blocks.f MB
  have e1 : Int.tmod (n : Int) 64 = ((n % 64 : Nat) : Int) := by rw [Int.tmod_eq_emod_of_nonneg (by omega)]; omega
  have e2 : Int.tdiv (n : Int) 64 = ((n / 64 : Nat) : Int) := by rw [Int.tdiv_eq_ediv_of_nonneg (by omega)]; omega
  rw [e1, e2, if_neg (by omega)]
  by_cases h : n % 64 < 56
  · rw [if_neg (by unfold wrap64; omega), if_pos h]
    congr 1
    unfold wrap64; omega
  · rw [if_pos (by unfold wrap64; omega), if_neg h]
    congr 1
    unfold wrap64; omega
theorem end_is (l rest : List Int) (n r z : Nat) (hl : l.length = n) (hr : rest.length = r) (hrn : n % 64 = r) (hz : MB n * 64 - 8 = z) (hd : l.drop (n / 64 * 64) = rest) :
    ((rest.take (min r z) ++ (List.replicate z (0 : Int)).drop (min r z)).set r 128) ++ BE 8 (8 * (n : Int)) = TAILB l := by
  have hzr : r + 1 ≤ z := by unfold MB at hz; split at hz <;> omega
  unfold TAILB
  rw [hl, hd, hrn, Nat.min_eq_left (by omega), List.take_of_length_le (by omega), List.drop_replicate, List.set_append_right _ _ (by omega), hr, Nat.sub_self]
  obtain ⟨k, hk⟩ : ∃ k, z - r = k + 1 := ⟨z - r - 1, by omega⟩
  rw [hk, List.replicate_succ, List.set_cons_zero, show MB n * 64 - 9 - r = k by omega]
  simp
theorem C_same {kk : IntKind} {W W' : World} {A : Option Addr} {n : Nat} {xs : List Int} (h : Kd.C (Kd.int kk) W A n xs) (hs : ∀ ad, A = some ad → 0 < n → W'.heap[ad.block]? = W.heap[ad.block]?) : Kd.C (Kd.int kk) W' A n xs := by
  refine ⟨h.1, h.2.1, fun hp => ?_⟩
  obtain ⟨ad, e, hc⟩ := h.2.2 hp
  refine ⟨ad, e, fun j p hj => ?_⟩
  obtain ⟨c1, h1, h2, h3⟩ := hc j p hj
  refine ⟨c1, h1, h2, fun i u hu => ?_⟩
  have := h3 i u hu
  unfold World.cell? at this ⊢
  rw [add_block] at this ⊢
  rw [hs ad e hp]
  exact this
theorem C_blk {kk : IntKind} {W : World} {ad : Addr} {n : Nat} {xs : List Int} (h : Kd.C (Kd.int kk) W (some ad) n xs) (hn : 0 < n) : ∃ cs t fr, W.heap[ad.block]? = some (.cells cs t fr) ∧ ∃ x, Value.int kk x ∈ cs.toList := by
  obtain rfl : xs.length = n := h.1
  have h0 := C_cell kk xs h 0 hn
  unfold World.cell? at h0
  rw [add_block] at h0
  split at h0
  · rename_i cs t fr he
    split at h0
    · cases h0
    · exact ⟨cs, t, fr, he, _, by simpa using Array.mem_of_getElem? h0⟩
  · cases h0
theorem own_C {β : Type} {kk : IntKind} (B : Nat) (A : Option Addr) (xs : List Int) : OwnFrom B (fun (_ : β) W => Kd.C (Kd.int kk) W A xs.length xs) := fun s X Y row hs hg hr => by
  refine C_same hs (fun ad e hp => ?_)
  subst e
  obtain ⟨cs, t, fr, hb, _⟩ := C_blk hs hp
  exact hg.block ad.block (blk_lt hb) (fun e => by
    obtain ⟨_, o, ho, hc⟩ := hr _ e.symm
    rw [hb] at ho
    cases ho
    cases hc)
theorem C_setRow {kk : IntKind} {W : World} {A : Option Addr} {n g : Nat} {xs : List Int} {cs cs' : Array Value} {t : TypeId} (h : Kd.C (Kd.int kk) W A n xs) (hx : W.heap[g]? = some (.cells cs t (0, 0))) (hne : ∀ x, Value.int kk x ∉ cs.toList) : Kd.C (Kd.int kk) (W.setRow g cs') A n xs := by
  refine C_same h (fun ad e hp => ?_)
  subst e
  obtain ⟨cs2, t2, fr, hb, x, hm⟩ := C_blk h hp
  refine setRow_other _ _ _ _ (fun e => ?_)
  rw [e, hx] at hb
  injection hb with hb
  injection hb with e1
  subst e1
  exact hne x hm
theorem nou8 (l : List Int) : ∀ x, Value.int .u8 x ∉ ((l.map (Value.int .u32)).toArray).toList := by
  intro x h
  simp at h
theorem U5_add (s v : St) : U5 (add5 s v) := by
  unfold U5 add5 B32
  refine ⟨?_, ?_, ?_, ?_, ?_⟩ <;> exact ⟨Int.emod_nonneg _ (by decide), Int.emod_lt_of_pos _ (by decide)⟩
theorem U5_FD (s : St) (h : U5 s) (l : List Int) : ∀ j, U5 (FD s l j)
  | 0 => h
  | j + 1 => U5_add _ _
theorem U5_INIT : U5 INIT := by
  unfold U5 INIT B32
  decide
theorem U5_DIG (l : List Int) : U5 (DIG l) := U5_FD _ (U5_FD _ U5_INIT l _) _ _
theorem put_other {W : World} {g l : Nat} {o o' : Obj} (h : W.heap[g]? = some o) (hne : g ≠ l) : (W.putObj l o').heap[g]? = some o := (World.putObj_heap_other hne).trans h
theorem cells_ne {W : World} {g D : Nat} {cs : Array Value} {t : TypeId} {fr : Nat × Nat} {x : Option (List Deferred)} (h : W.heap[g]? = some (.cells cs t fr)) (k : W.heap[D]? = some (.deferred x)) : g ≠ D := fun e => by
  subst e
  rw [h] at k
  cases k
theorem hmx64 : Try.prog.follows .mixedOrders = true := by kernel_rfl
section
attribute [local go_sem] Oper.semAt_some
set_option maxHeartbeats 4000000 in
set_option maxRecDepth 100000 in
theorem sum_c (w : World) (A : Option Addr) (c : Nat) (l : List Int) (hC : Kd.C (Kd.int .u8) w A l.length l) (hc : l.length ≤ c) (hb : ∀ i, Byte (l.getD i 0)) (hn : l.length ≤ 1000000) :
    Calls Try.prog 7 #[.slice A l.length c] w fun e w' => e = .returned (D20 (PB (DIG l))) ∧ Below w.heap.size w w' := by
  have hu25 := Try.underlying25
  have hu28 := Try.underlying28
  have hu22 := Try.underlying22
  have z25 := zero_of (P := Try.prog) (t := 25) (v := .agg (Array.replicate 20 (.int .u8 0))) (by kernel_rfl)
  have HC := Aside0.mk hC
  have HBY := Aside0.mk hb
  clear hC hb
  obtain ⟨n, hln⟩ : ∃ n, l.length = n := ⟨_, rfl⟩
  obtain ⟨q, hq⟩ : ∃ q, n / 64 = q := ⟨_, rfl⟩
  rw [hln] at hc hn HC ⊢
  have HLN := Aside0.mk hln
  have HQ := Aside0.mk hq
  have e0 : ((n : Nat) : Int).tdiv 64 = (q : Int) := by rw [← hq]; rfl
  have e1 : wrap64 ((q : Int) * 64) = ((q * 64 : Nat) : Int) := by unfold wrap64; omega
  have e2 : ((q * 64 : Nat) : Int) ≤ (n : Int) := by omega
  have e3 : ((q * 64 : Nat) : Int) ≤ (c : Int) := by omega
  have e5 : (c - 0 : Nat) = c := by omega
  clear hln hq
  refine (callsIn_wide (n := 3)).1 ?_
  refine callsIn_of_wp_marks Try.func7 rfl trivial ?_ rfl
  simp only [Try.ntmps7, List.size_toArray, List.length_cons, List.length_nil, Nat.reduceAdd, Nat.reduceSub, Array.replicate_succ, Array.replicate_zero, List.push_toArray, List.append_toArray, List.nil_append, List.cons_append]
  refine wpIn_wide.2 ?_
  go_wp2_with (first | ((with_reducible refine gate_dst (N := 2) rfl ?_); refine box_event ?hg (N := 2) ?hd (cs := Array.replicate 20 (.int .u8 0)) (t := 25) ?hr ?_; (case hd => rfl); (case hg => rfl); (case hr => go_simp); intro g2 hg2_ w2 hx2 hb2; have hg2 := Aside0.mk hg2_; clear hg2_) | (go_at_call 20; refine (sha1_begin.calls _ _ _ _ _ _ rfl).mono ?_; rintro e_ w3 ⟨rfl, hb3⟩) | ((with_reducible refine gate_dst (N := 3) rfl ?_); refine box_event ?hg (N := 3) ?hd (cs := #[.int .u32 0, .int .u32 0, .int .u32 0, .int .u32 0, .int .u32 0]) (t := 28) ?hr ?_; (case hd => rfl); (case hg => rfl); (case hr => go_simp; try rfl); intro g3 hg3_ w4 hx3 hb4; have hg3 := Aside0.mk hg3_; clear hg3_; have n23 : g2 ≠ g3 := (by rw [hg3.out]; exact Nat.ne_of_lt (blk_lt (blk_below hx2 hb3))); have gw3 : w.heap.size ≤ g3 := (by rw [hg3.out]; exact below_size (below_step hb2 hb3)); have gw2 : w.heap.size ≤ g2 := (by rw [hg2.out]; omega)) | (refine wpList_store_row rfl 28 _ _ rfl g3 ((L5 INIT).map (Value.int .u32)).toArray rfl rfl 28 _ hx3 (by kernel_rfl) rfl (one_cells _) ?_; have y3 := setRow_heap w4 g3 _ ((L5 INIT).map (Value.int .u32)).toArray _ _ hx3; have y2 := (setRow_other w4 g3 g2 ((L5 INIT).map (Value.int .u32)).toArray n23).trans (blk_below (blk_below hx2 hb3) hb4); have yw := below_setRow (below_step (below_step hb2 hb3) hb4) gw3 ((L5 INIT).map (Value.int .u32)).toArray; clear hx2 hx3 hb2 hb3 hb4 hg2 hg3; generalize w4.setRow g3 ((L5 INIT).map (Value.int .u32)).toArray = w5 at y2 y3 yw ⊢) | (go_at_call 21; refine (chunk64.chunk0 _ _ _ _).mono ?_; rintro e_ wz ⟨rfl, ⟨m2, rfl⟩⟩))
  obtain ⟨ad, hA⟩ : ∃ ad, 0 < q → A = some ad := by
    by_cases h0 : 0 < q
    · obtain ⟨ad, hA, _⟩ := HC.out.2.2 (by have := HQ.out; omega)
      exact ⟨ad, fun _ => hA⟩
    · exact ⟨⟨0, 0, none⟩, fun h => absurd h h0⟩
  have HY2 := Aside0.mk y2
  have HY3 := Aside0.mk y3
  have HYW := Aside0.mk yw
  clear y2 y3 yw
  generalize hW0 : World.drewN _ m2 = W0
  have hsz : W0.heap.size = w5.heap.size + 2 := by rw [← hW0]; simp [World.drewN]
  have hB0 : Below w.heap.size w W0 := by
    rw [← hW0]
    exact pw_below_drewN ((HYW.out.alloc HYW.out.size _).alloc (by rw [World.size_alloc]; have := HYW.out.size; omega) _) _
  have h30 : W0.heap[g3]? = some (.cells ((L5 INIT).map (Value.int .u32)).toArray 28 (0, 0)) := by rw [← hW0]; exact blk_drewN (blk_alloc (blk_alloc HY3.out _) _) _
  have h20 : W0.heap[g2]? = some (.cells (Array.replicate 20 (.int .u8 0)) 25 (0, 0)) := by rw [← hW0]; exact blk_drewN (blk_alloc (blk_alloc HY2.out _) _) _
  have hbs : Boxed W0 w5.heap.size 22 (.slice A (q * 64) c) := by
    rw [← hW0]
    exact (Boxed.new w5 22 (.slice A (q * 64) c)).alloc _
  have hbn : Boxed W0 (w5.heap.size + 1) 3 (.int .i64 64) := by
    have b := Boxed.new (w5.alloc (.cells #[.slice A (q * 64) c] 22)) 3 (.int .i64 64)
    simp only [World.size_alloc] at b
    rw [← hW0]
    exact b
  clear hW0
  refine (wpIn_wide (n := 3)).1 ?_
  refine wpIn_rangeFunc_ownF (Kp := chunk64.keep w5.heap.size (w5.heap.size + 1)) rfl (by decide) (gf := 33) (lb := #[.pointer (some ⟨w5.heap.size, 0, none⟩), .pointer (some ⟨w5.heap.size + 1, 0, none⟩)]) rfl trivial chunk64.enters
    (chunk64.stops 2 w5.heap.size (w5.heap.size + 1) q (by decide) A ad hA c (by have := HQ.out; omega) (by have := HQ.out; omega) W0 (by omega) (by omega) hbs hbn) (fun h k => chunk64.keep_t h k) (fun W l o o' _ h ho _ => chunk64.keep_b W l o o' h ho) (Below.refl _ _) (fun _ => rfl)
    (fun (pre : List (Fin q)) W => (W.heap[g3]? = some (.cells ((L5 (FDX INIT l pre)).map (Value.int .u32)).toArray 28 (0, 0)) ∧ W.heap[g2]? = some (.cells (Array.replicate 20 (.int .u8 0)) 25 (0, 0))) ∧ Below w.heap.size w W)
    (fun _ _ _ => False)
    (OwnFrom.and (OwnFrom.and (own_cells _ g3 28 _) (own_cells _ g2 25 _)) (ownFrom_below (Nat.le_refl _) (by have := HYW.out.size; omega)))
    (fun _ _ _ _ _ hs _ _ => hs)
    ⟨⟨h30, h20⟩, hB0⟩ ?_ ?_ ?_ ?_ ?_
  rotate_left
  · intro lr x W K hK
    gi_wp2
    exact hK
  · rintro lr pre x W ⟨⟨hx3, hx2⟩, hB⟩ hlt
    have hd : 1 ≤ 3 - 1 - 1 := by decide
    have hmx := hmx64
    obtain ⟨S, hS⟩ : ∃ S, FDX INIT l pre = S := ⟨_, rfl⟩
    obtain ⟨ch, hch⟩ : ∃ ch, (l.drop (x.val * 64)).take 64 = ch := ⟨_, rfl⟩
    obtain ⟨adx, hadx⟩ : ∃ adx, ad.add (x.val * 64) = adx := ⟨_, rfl⟩
    have hsn := FDX_snoc INIT l pre x
    rw [hS, hch] at hsn
    rw [hS] at hx3
    have hxq : x.val * 64 + 64 ≤ l.length := by have := x.isLt; have := HQ.out; rw [HLN.out]; omega
    have hl64 : ch.length = 64 := by rw [← hch]; simp; omega
    have hby : ∀ i, Byte (ch.getD i 0) := by rw [← hch]; exact byte_cut l HBY.out _
    have hCc : Kd.C (Kd.int .u8) w (some adx) 64 ch := by
      have h0 := HC.out
      rw [hA (by have := x.isLt; omega), ← HLN.out] at h0
      rw [← hadx, ← hch]
      exact chunk64.cut w ad l _ h0 hxq
    have HL64 := Aside0.mk hl64
    have HSN := Aside0.mk hsn
    rw [hadx]
    clear hS hch hadx hsn hxq hl64
    gi_wp2
    refine wpIn_region_any hmx ?_
    obtain ⟨W1, hW1⟩ : ∃ W1, { W with drawn := W.drawn + 1 } = W1 := ⟨_, rfl⟩
    have hh : W1.heap = W.heap := by rw [← hW1]
    have hb1 : ∀ N, Below N W W1 := fun N => by rw [← hW1]; exact ⟨rfl, rfl, rfl, Nat.le_refl _, fun _ _ => rfl⟩
    rw [hW1]
    have HX1 := Aside0.mk (show W1.heap[g3]? = some (.cells ((L5 S).map (Value.int .u32)).toArray 28 (0, 0)) by rw [hh]; exact hx3)
    have HCH1 : Aside0 (Kd.C (Kd.int .u8) W1 (some adx) ch.length ch) := ⟨by rw [HL64.out]; exact Kd.C_below hCc (hB.trans (hb1 _))⟩
    have HU38 : Aside0 (Try.prog.underlying 38 = some (.array ch.length 5)) := ⟨by rw [HL64.out]; exact Try.underlying38⟩
    have HI38 : Aside0 ((Try.prog.info? 38).map (·.size) = some ch.length) := ⟨by rw [HL64.out]; kernel_rfl⟩
    have hat := fun W => arr_at (P := Try.prog) Try.underlying38 (some adx) 64 64 (by decide) W
    have hcall := Aside0.mk (step_c S ch HL64.out hby W1)
    have hfin : ∀ wz, Below W1.heap.size W1 wz → ∀ a, ownPostK (chunk64.keep w5.heap.size (w5.heap.size + 1)) (fun (pre : List (Fin q)) W => (W.heap[g3]? = some (.cells ((L5 (FDX INIT l pre)).map (Value.int .u32)).toArray 28 (0, 0)) ∧ W.heap[g2]? = some (.cells (Array.replicate 20 (.int .u8 0)) 25 (0, 0))) ∧ Below w.heap.size w W) (fun _ _ _ => False) (pre ++ [x]) W Exit.normal a (wz.setRow g3 ((L5 (STEP S ch)).map (Value.int .u32)).toArray) := by
      intro wz hbz a
      refine ⟨keeps_others hh hx3 hbz, keeps_boxes hh hx3 hbz, ⟨?_, ?_⟩, ?_⟩
      · rw [HSN.out]; exact setRow_heap wz g3 _ _ _ _ (blk_below HX1.out hbz)
      · exact keep_step hh hx3 hbz g2 _ hx2 (fun e => by injection e with e1 e2 e3; cases e2)
      · exact below_setRow (below_then (hB.trans (hb1 _)) (by rw [hh]; exact hB.size) hbz) gw3 _
    have hfin' := Aside0.mk hfin
    clear hfin hh hb1 hx2 hx3 hB hCc hby HL64 HSN hW1
    refine wpAnyIn_ready (rs := [0, 1]) (by kernel_rfl) (by simp) ?_
    refine AllReadyIn.cons rfl (fun K hK => ?_) (AllReadyIn.cons rfl (fun K hK => ?_) AllReadyIn.nil)
    · rw [if_pos (by rfl)]
      refine load_row_in 28 _ rfl g3 rfl 28 _ (0, 0) _ HX1.out hu28 rfl (by rw [L5_size]; kernel_rfl) ?_
      refine hK _ _ ?_
      clear hK K
      refine wpAnyIn_ready (rs := [1]) (by kernel_rfl) (by simp) ?_
      refine AllReadyIn.cons rfl (fun K hK => ?_) AllReadyIn.nil
      go_simp
      refine hK _ _ ?_
      clear hK K
      refine wpAnyIn_ready (rs := [2]) (by kernel_rfl) (by simp) ?_
      refine AllReadyIn.cons rfl (fun K hK => ?_) AllReadyIn.nil
      go_simp
      refine hK _ _ ?_
      clear hK K
      refine wpAnyIn_ready (rs := [3]) (by kernel_rfl) (by simp) ?_
      refine AllReadyIn.cons rfl (fun K hK => ?_) AllReadyIn.nil
      rw [if_pos (by rfl)]
      refine load_C_in .u8 ch adx 38 5 _ rfl rfl HCH1.out HU38.out HI38.out ?_
      refine hK _ _ ?_
      clear hK K
      refine wpAnyIn_ready (rs := [4]) (by kernel_rfl) (by simp) ?_
      refine AllReadyIn.cons rfl (fun K hK => ?_) AllReadyIn.nil
      go_simp
      try gi_at_call 17
      try (refine ⟨trivial, ?_⟩)
      refine (CallsIn.inRound lr (callsIn_wide.2 (hcall.out))).mono ?_
      rintro e_ wz ⟨rfl, hbz⟩
      go_simp
      refine hK _ _ ?_
      clear hK K
      refine wpAnyIn_ready (rs := [5]) (by kernel_rfl) (by simp) ?_
      refine AllReadyIn.cons rfl (fun K hK => ?_) AllReadyIn.nil
      rw [if_pos (by rfl)]
      refine store_row_in 28 _ _ rfl g3 ((L5 (STEP S ch)).map (Value.int .u32)).toArray rfl rfl 28 _ (blk_below HX1.out hbz) (by rw [L5_size]; kernel_rfl) rfl (one_cells _) ?_
      refine hK _ _ ?_
      clear hK K
      refine wpAnyIn_done (by kernel_rfl) ?_ _
      exact hfin'.out _ hbz ⟨#[], []⟩
    · go_simp
      refine hK _ _ ?_
      clear hK K
      refine wpAnyIn_ready (rs := [0, 2]) (by kernel_rfl) (by simp) ?_
      refine AllReadyIn.cons rfl (fun K hK => ?_) (AllReadyIn.cons rfl (fun K hK => ?_) AllReadyIn.nil)
      · rw [if_pos (by rfl)]
        refine load_row_in 28 _ rfl g3 rfl 28 _ (0, 0) _ HX1.out hu28 rfl (by rw [L5_size]; kernel_rfl) ?_
        refine hK _ _ ?_
        clear hK K
        refine wpAnyIn_ready (rs := [2]) (by kernel_rfl) (by simp) ?_
        refine AllReadyIn.cons rfl (fun K hK => ?_) AllReadyIn.nil
        go_simp
        refine hK _ _ ?_
        clear hK K
        refine wpAnyIn_ready (rs := [3]) (by kernel_rfl) (by simp) ?_
        refine AllReadyIn.cons rfl (fun K hK => ?_) AllReadyIn.nil
        rw [if_pos (by rfl)]
        refine load_C_in .u8 ch adx 38 5 _ rfl rfl HCH1.out HU38.out HI38.out ?_
        refine hK _ _ ?_
        clear hK K
        refine wpAnyIn_ready (rs := [4]) (by kernel_rfl) (by simp) ?_
        refine AllReadyIn.cons rfl (fun K hK => ?_) AllReadyIn.nil
        go_simp
        try gi_at_call 17
        try (refine ⟨trivial, ?_⟩)
        refine (CallsIn.inRound lr (callsIn_wide.2 (hcall.out))).mono ?_
        rintro e_ wz ⟨rfl, hbz⟩
        go_simp
        refine hK _ _ ?_
        clear hK K
        refine wpAnyIn_ready (rs := [5]) (by kernel_rfl) (by simp) ?_
        refine AllReadyIn.cons rfl (fun K hK => ?_) AllReadyIn.nil
        rw [if_pos (by rfl)]
        refine store_row_in 28 _ _ rfl g3 ((L5 (STEP S ch)).map (Value.int .u32)).toArray rfl rfl 28 _ (blk_below HX1.out hbz) (by rw [L5_size]; kernel_rfl) rfl (one_cells _) ?_
        refine hK _ _ ?_
        clear hK K
        refine wpAnyIn_done (by kernel_rfl) ?_ _
        exact hfin'.out _ hbz ⟨#[], []⟩
      · go_simp
        refine hK _ _ ?_
        clear hK K
        refine wpAnyIn_ready (rs := [0, 3]) (by kernel_rfl) (by simp) ?_
        refine AllReadyIn.cons rfl (fun K hK => ?_) (AllReadyIn.cons rfl (fun K hK => ?_) AllReadyIn.nil)
        · rw [if_pos (by rfl)]
          refine load_row_in 28 _ rfl g3 rfl 28 _ (0, 0) _ HX1.out hu28 rfl (by rw [L5_size]; kernel_rfl) ?_
          refine hK _ _ ?_
          clear hK K
          refine wpAnyIn_ready (rs := [3]) (by kernel_rfl) (by simp) ?_
          refine AllReadyIn.cons rfl (fun K hK => ?_) AllReadyIn.nil
          rw [if_pos (by rfl)]
          refine load_C_in .u8 ch adx 38 5 _ rfl rfl HCH1.out HU38.out HI38.out ?_
          refine hK _ _ ?_
          clear hK K
          refine wpAnyIn_ready (rs := [4]) (by kernel_rfl) (by simp) ?_
          refine AllReadyIn.cons rfl (fun K hK => ?_) AllReadyIn.nil
          go_simp
          try gi_at_call 17
          try (refine ⟨trivial, ?_⟩)
          refine (CallsIn.inRound lr (callsIn_wide.2 (hcall.out))).mono ?_
          rintro e_ wz ⟨rfl, hbz⟩
          go_simp
          refine hK _ _ ?_
          clear hK K
          refine wpAnyIn_ready (rs := [5]) (by kernel_rfl) (by simp) ?_
          refine AllReadyIn.cons rfl (fun K hK => ?_) AllReadyIn.nil
          rw [if_pos (by rfl)]
          refine store_row_in 28 _ _ rfl g3 ((L5 (STEP S ch)).map (Value.int .u32)).toArray rfl rfl 28 _ (blk_below HX1.out hbz) (by rw [L5_size]; kernel_rfl) rfl (one_cells _) ?_
          refine hK _ _ ?_
          clear hK K
          refine wpAnyIn_done (by kernel_rfl) ?_ _
          exact hfin'.out _ hbz ⟨#[], []⟩
        · rw [if_pos (by rfl)]
          refine load_C_in .u8 ch adx 38 5 _ rfl rfl HCH1.out HU38.out HI38.out ?_
          refine hK _ _ ?_
          clear hK K
          refine wpAnyIn_ready (rs := [0]) (by kernel_rfl) (by simp) ?_
          refine AllReadyIn.cons rfl (fun K hK => ?_) AllReadyIn.nil
          rw [if_pos (by rfl)]
          refine load_row_in 28 _ rfl g3 rfl 28 _ (0, 0) _ HX1.out hu28 rfl (by rw [L5_size]; kernel_rfl) ?_
          refine hK _ _ ?_
          clear hK K
          refine wpAnyIn_ready (rs := [4]) (by kernel_rfl) (by simp) ?_
          refine AllReadyIn.cons rfl (fun K hK => ?_) AllReadyIn.nil
          go_simp
          try gi_at_call 17
          try (refine ⟨trivial, ?_⟩)
          refine (CallsIn.inRound lr (callsIn_wide.2 (hcall.out))).mono ?_
          rintro e_ wz ⟨rfl, hbz⟩
          go_simp
          refine hK _ _ ?_
          clear hK K
          refine wpAnyIn_ready (rs := [5]) (by kernel_rfl) (by simp) ?_
          refine AllReadyIn.cons rfl (fun K hK => ?_) AllReadyIn.nil
          rw [if_pos (by rfl)]
          refine store_row_in 28 _ _ rfl g3 ((L5 (STEP S ch)).map (Value.int .u32)).toArray rfl rfl 28 _ (blk_below HX1.out hbz) (by rw [L5_size]; kernel_rfl) rfl (one_cells _) ?_
          refine hK _ _ ?_
          clear hK K
          refine wpAnyIn_done (by kernel_rfl) ?_ _
          exact hfin'.out _ hbz ⟨#[], []⟩
  · rintro D ys W hD hys ⟨⟨hx3, hx2⟩, hB⟩ hK
    rw [FDX_all INIT l ys hys] at hx3
    have HDW := Aside0.mk (show w.heap.size ≤ D from Nat.le_trans hB0.size hD)
    obtain ⟨S1, hS1⟩ : ∃ S1, FD INIT l q = S1 := ⟨_, rfl⟩
    rw [hS1] at hx3
    have HS1 := Aside0.mk hS1
    obtain ⟨r, hr⟩ : ∃ r, n % 64 = r := ⟨_, rfl⟩
    obtain ⟨m, hm⟩ : ∃ m, MB n = m := ⟨_, rfl⟩
    obtain ⟨z, hz⟩ : ∃ z, m * 64 - 8 = z := ⟨_, rfl⟩
    have hm12 : 1 ≤ m ∧ m ≤ 2 := by rw [← hm]; unfold MB; split <;> omega
    have hzr : r + 1 ≤ z := by rw [← hz, ← hm, ← hr]; unfold MB; split <;> omega
    have hqr : n = q * 64 + r := by have := HQ.out; omega
    have M0 : Aside0 (MID w g2 g3 D W.heap.size S1 W) := ⟨⟨hx3, hx2, hK, hB, blk_lt hx2, blk_lt hx3, blk_lt hK, Nat.le_refl _, hB.size⟩⟩
    obtain ⟨Wb, hWb⟩ : ∃ Wb, W.heap.size = Wb := ⟨_, rfl⟩
    have HWB := Aside0.mk hWb
    rw [hWb] at M0
    have HBL := Aside0.mk (blocks_is n (by omega))
    rw [hm, HQ.out] at HBL
    have f1 : ((q * 64 : Nat) : Int).tdiv 64 = (q : Int) := by rw [Int.tdiv_eq_ediv_of_nonneg (by omega)]; omega
    have f2 : wrap64 (((q + m : Nat) : Int) - (q : Int)) = (m : Int) := by unfold wrap64; omega
    have f3 : wrap64 ((m : Int) * 64) = ((m * 64 : Nat) : Int) := by unfold wrap64; omega
    have f4 : wrap64 (((m * 64 : Nat) : Int) - 8) = (z : Int) := by unfold wrap64; omega
    have f2' : wrap64 ((q : Int) + (m : Int) - (q : Int)) = (m : Int) := by unfold wrap64; omega
    have f3' : wrap64 ((m : Int) * 64) = (m : Int) * 64 := by unfold wrap64; omega
    have f4' : wrap64 ((m : Int) * 64 - 8) = (z : Int) := by unfold wrap64; omega
    have f5' : wrap64 ((n : Int) - ((q : Int) * 64)) = (r : Int) := by unfold wrap64; omega
    have f5 : wrap64 ((n : Int) - ((q * 64 : Nat) : Int)) = (r : Int) := by unfold wrap64; omega
    have HZ : Aside0 (z ≤ 120) := ⟨by omega⟩
    have HR := Aside0.mk hr
    have HM := Aside0.mk hm
    have HZM := Aside0.mk hz
    have HZR := Aside0.mk hzr
    have HQR := Aside0.mk hqr
    obtain ⟨rest, hrest⟩ : ∃ rest, l.drop (q * 64) = rest := ⟨_, rfl⟩
    have hrl : rest.length = r := by rw [← hrest, List.length_drop, HLN.out]; omega
    have hnr : n - q * 64 = r := by omega
    have C1 : Aside0 (c = q * 64 → Kd.C (Kd.int .u8) w A r rest) := ⟨fun hcq => by
      have h0 := HC.out
      rw [← HLN.out] at h0
      have h1 := Kd.C_drop (m := q * 64) (c := c) h0 (by rw [HLN.out]; omega) (by rw [HLN.out]; exact hc)
      rw [if_pos hcq, hrest, hrl] at h1
      exact h1⟩
    have C2 : Aside0 (¬ c = q * 64 → Kd.C (Kd.int .u8) w (A.map (·.add (q * 64))) r rest) := ⟨fun hcq => by
      have h0 := HC.out
      rw [← HLN.out] at h0
      have h1 := Kd.C_drop (m := q * 64) (c := c) h0 (by rw [HLN.out]; omega) (by rw [HLN.out]; exact hc)
      rw [if_neg hcq, hrest, hrl] at h1
      have hz1 : (Kd.int .u8).sz = 1 := rfl
      simp only [hz1, Nat.mul_one] at h1
      exact h1⟩
    obtain ⟨E1, hE1⟩ : ∃ E1, rest.take (min r z) ++ (List.replicate z (0 : Int)).drop (min r z) = E1 := ⟨_, rfl⟩
    obtain ⟨TL, hTL⟩ : ∃ TL, TAILB l = TL := ⟨_, rfl⟩
    have hE1l : E1.length = z := by rw [← hE1, Nat.min_eq_left (by omega)]; simp; omega
    have hend := end_is l rest n r z HLN.out hrl hr (by rw [hm]; exact hz) (by rw [HQ.out]; exact hrest)
    rw [hE1, hTL] at hend
    obtain ⟨E2, hE2⟩ : ∃ E2, E1.set r 128 = E2 := ⟨_, rfl⟩
    have hE2l : E2.length = z := by rw [← hE2, List.length_set]; exact hE1l
    have hTLl : TL.length = m * 64 := by rw [← hend, hE2, List.length_append, hE2l, BE_length]; omega
    have hTLb : ∀ i, Byte (TL.getD i 0) := by
      intro i
      by_cases hi : i < TL.length
      · have hmem : TL.getD i 0 ∈ TL := by simp [hi]
        have : ∀ x ∈ TL, Byte x := by
          intro x hx
          rw [← hend, ← hE1] at hx
          rcases List.mem_append.1 hx with hx | hx
          · rcases List.mem_or_eq_of_mem_set hx with hx | hx
            · rcases List.mem_append.1 hx with hx | hx
              · have hx := List.mem_of_mem_take hx
                rw [← hrest] at hx
                have hx := List.mem_of_mem_drop hx
                obtain ⟨j, hj, rfl⟩ := List.getElem_of_mem hx
                have := HBY.out j
                rwa [List.getD_eq_getElem?_getD, List.getElem?_eq_getElem hj] at this
              · have hx := List.mem_of_mem_drop hx
                rw [List.eq_of_mem_replicate hx]
                exact ⟨by decide, by decide⟩
            · rw [hx]
              exact ⟨by decide, by decide⟩
          · exact BE_bytes _ _ x hx
        exact this _ hmem
      · rw [List.getD_eq_getElem?_getD, List.getElem?_eq_none (by omega)]
        exact ⟨by decide, by decide⟩
    obtain ⟨kp, hkp⟩ := Ev.ok (put_uint64_is (l := E2) (p := 8 * (n : Int)) (by omega) (by rw [hE2l]; omega))
    rw [← hE2, hend, hE2] at hkp
    have HPUT := Aside0.mk hkp
    have u1 : IntKind.u64.wrap (n : Int) = (n : Int) := by rw [wrap_u64]; omega
    have u2 : IntKind.u64.wrap ((n : Int) * 8) = 8 * (n : Int) := by rw [wrap_u64]; omega
    have HE1 := Aside0.mk hE1
    have HE1L := Aside0.mk hE1l
    have HE2 := Aside0.mk hE2
    have HE2L := Aside0.mk hE2l
    have HTL := Aside0.mk hTL
    have HTLL := Aside0.mk hTLl
    have HTLB := Aside0.mk hTLb
    have rz : (r : Int) < (z : Int) := by omega
    clear hrest hrl hE1 hTL hE1l hend hE2 hE2l hTLl hTLb hkp
    clear hx3 hx2 hB hK hS1 hr hm hz hWb hD hys hm12 hqr
    go_wp2_with (first | (go_at_call 14; refine (sha1_Blocks.calls _ _ _ HBL.out).mono ?_; rintro e_ w' ⟨rfl, ⟨⟨m1, rfl⟩⟩⟩; have M1 := Aside0.mk (M0.out.drewN m1)) | ((with_reducible refine gate_dst (N := 31) rfl ?_); refine Kd.R_make (Kd.int .u8) w.heap.size 5 rfl (N := 31) rfl 22 _ _ rfl (z : Int) (congrArg (Value.int .i64) f4') (congrArg (Value.int .i64) f4') Try.underlying22 (.int .u8 0) 1 info5 rfl (by decide) (by omega) 0 (ok := fun k => Wb ≤ k) (okp := fun _ => False) rfl (fun _ hk => hk.elim) (by have := M1.out.sz; exact this) (by omega) (by have := HZ.out; rw [Int.toNat_natCast]; omega) M1.out.hB M1.out.hB.size ?_; intro v31 w6 ho6 hb6 hg6 hn6; rw [Int.toNat_natCast] at ho6; obtain ⟨go, co, eo, gb, gl, cl, HG⟩ := Kd.R_form ho6 (by rw [List.length_replicate]; have := HZR.out; omega); subst eo; rw [List.length_replicate] at ho6; have GO := Aside0.mk (ho6.1 go (by simp [Value.ownBlock])); have M6 := Aside0.mk (M1.out.grown hb6 hg6 (fun k e => by cases e) hg6.size); have R6 := Aside0.mk ho6; clear ho6 hb6 hg6 hn6 gb gl cl HG) | ((with_reducible refine gate_dst (N := 36) rfl ?_); refine halt_ ?_))
    all_goals
      unfold Halted
      refine Kd.R_copy (enc := Value.int .u8) (h1 := fun _ => rfl) 0 (w0 := w) w.heap.size rfl (.tmp 32) (.tmp 35) 22 22 5 rfl Try.underlying22 (by kernel_rfl) (.slice (some ⟨go, 0, none⟩) z co) (List.replicate z 0) rest _ r _ (fun k => Wb ≤ k) rfl rfl R6.out ?cR M6.out.hB M6.out.hB.size ?_; (case cR => first | exact Kd.C_below (C1.out (by assumption)) M6.out.hB | exact Kd.C_below (C2.out (by assumption)) M6.out.hB); intro w7 ho7 hb7 hg7; simp only [List.length_replicate] at ho7; rw [HE1.out] at ho7; have M7 := Aside0.mk (M6.out.grown hb7 hg7 (fun k e => by cases e; exact GO.out) hg7.size); have R7 := Aside0.mk ho7; have hcl := Kd.R_celln 0 ho7 (r : Int) (by omega) rz; rw [Int.toNat_natCast] at hcl; obtain ⟨hcl1, hcl2⟩ := hcl; clear ho7 hb7 hg7
      go_wp2_with (first | ((with_reducible refine gate_store (t := 5) (p := 42) rfl ?_); refine store_event (t := 5) (p := 42) (v := ?vo) (w1 := w7.setCell ⟨go, r, none⟩ (.int .u8 128)) ?hg ?ho ?hn ?hr ?_; (case ho => rfl); (case hg => rfl); (case hn => rfl); (case hr => first | (go_simp; done) | (go_simp; rfl)); intro w8 hw8; have hp8 := Kd.R_putg R7.out (r : Int) 128; rw [Int.toNat_natCast, HE2.out, ← hw8] at hp8; have M8 := Aside0.mk (M7.out.grown (by rw [hw8]; exact below_set M7.out.hB (Nat.le_trans M7.out.wb GO.out)) hp8.2 (fun k e => by cases e; exact GO.out) hp8.2.size); have C8 := Aside0.mk (Kd.R_reads' hp8.1).2.2; have Z8 := Aside0.mk (Kd.R_reads' hp8.1).2.1; clear hp8 hw8 hcl1 hcl2))
      refine calls_args (as' := #[.slice (some ⟨go, 0, none⟩) E2.length co, .slice (some ⟨w8.heap.size, 0, none⟩) 1 1]) (by rw [HE2L.out]) ?_
      refine (octets_Put_uint64.calls kp (some ⟨go, 0, none⟩) co E2 (some ⟨w8.heap.size, 0, none⟩) 1 [8 * (n : Int)] TL _ (Kd.C_alloc C8.out _) (by rw [HE2L.out]; exact Z8.out) (C_box .u64 [8 * (n : Int)] (show 1 ≤ 9223372036854775807 by decide) (blk_new _ _)) (show 1 ≤ 1 by decide) HPUT.out).mono ?_
      rintro e_ w9 ⟨v9, rfl, hr9, hb9⟩
      obtain ⟨A9, c9, rfl, hc9, hC9⟩ := Kd.R_reads hr9
      have M9 := Aside0.mk (M8.out.below (below_step (below_alloc (Below.refl _ _) _) hb9))
      have C9 := Aside0.mk hC9
      have Z9 := Aside0.mk hc9
      rw [HTLL.out]
      clear hr9 hb9 hC9 hc9
      go_wp2_with (go_at_call 21; refine (chunk64.chunk0 _ _ _ _).mono ?_; rintro e_ wz ⟨rfl, ⟨m2, rfl⟩⟩)
      obtain ⟨ad, hA⟩ : ∃ ad, 0 < m → A9 = some ad := by
        by_cases h0 : 0 < m
        · obtain ⟨ad, hA, _⟩ := C9.out.2.2 (by rw [HTLL.out]; omega)
          exact ⟨ad, fun _ => hA⟩
        · exact ⟨⟨0, 0, none⟩, fun h => absurd h h0⟩
      have hm3 : m ≤ 2 := by rw [← HM.out]; unfold MB; split <;> omega
      generalize hV0 : World.drewN _ m2 = V0
      have hsz : V0.heap.size = w9.heap.size + 2 := by rw [← hV0]; simp [World.drewN]
      have hB0 : Below w.heap.size w V0 := by
        rw [← hV0]
        exact pw_below_drewN ((M9.out.hB.alloc M9.out.hB.size _).alloc (by rw [World.size_alloc]; have := M9.out.hB.size; omega) _) _
      have h30 : V0.heap[g3]? = some (.cells ((L5 S1).map (Value.int .u32)).toArray 28 (0, 0)) := by rw [← hV0]; exact blk_drewN (blk_alloc (blk_alloc M9.out.h3 _) _) _
      have h20 : V0.heap[g2]? = some (.cells (Array.replicate 20 (.int .u8 0)) 25 (0, 0)) := by rw [← hV0]; exact blk_drewN (blk_alloc (blk_alloc M9.out.h2 _) _) _
      have hbs : Boxed V0 w9.heap.size 22 (.slice A9 (m * 64) c9) := by
        rw [← hV0]
        exact (Boxed.new w9 22 (.slice A9 (m * 64) c9)).alloc _
      have hbn : Boxed V0 (w9.heap.size + 1) 3 (.int .i64 64) := by
        have b := Boxed.new (w9.alloc (.cells #[.slice A9 (m * 64) c9] 22)) 3 (.int .i64 64)
        simp only [World.size_alloc] at b
        rw [← hV0]
        exact b
      have hD0 : V0.heap[D]? = some (.deferred (some [])) := by rw [← hV0]; exact blk_drewN (blk_alloc (blk_alloc M9.out.hD _) _) _
      have hC0 : Kd.C (Kd.int .u8) V0 A9 TL.length TL := by rw [← hV0]; exact Kd.C_drewN (Kd.C_alloc (Kd.C_alloc C9.out _) _) _
      clear hV0
      refine (wpIn_wide (n := 3)).1 ?_
      refine wpIn_rangeFunc_ownF (Kp := chunk64.keep w9.heap.size (w9.heap.size + 1)) rfl (by decide) (gf := 33) (lb := #[.pointer (some ⟨w9.heap.size, 0, none⟩), .pointer (some ⟨w9.heap.size + 1, 0, none⟩)]) rfl trivial chunk64.enters
        (chunk64.stops 2 w9.heap.size (w9.heap.size + 1) m (by decide) A9 ad hA c9 (by have := Z9.out; rw [HTLL.out] at this; exact this) (by omega) V0 (by omega) (by omega) hbs hbn) (fun h k => chunk64.keep_t h k) (fun W l o o' _ h ho _ => chunk64.keep_b W l o o' h ho) (Below.refl _ _) (fun _ => rfl)
        (fun (pre : List (Fin m)) W => (W.heap[g3]? = some (.cells ((L5 (FDX S1 TL pre)).map (Value.int .u32)).toArray 28 (0, 0)) ∧ W.heap[g2]? = some (.cells (Array.replicate 20 (.int .u8 0)) 25 (0, 0))) ∧ (W.heap[D]? = some (.deferred (some [])) ∧ (Kd.C (Kd.int .u8) W A9 TL.length TL ∧ Below w.heap.size w W)))
        (fun _ _ _ => False)
        (OwnFrom.and (OwnFrom.and (own_cells _ g3 28 _) (own_cells _ g2 25 _)) (OwnFrom.and (own_obj _ D _ (by have := M9.out.lD; have := M9.out.sz; omega)) (OwnFrom.and (own_C _ A9 TL) (ownFrom_below (Nat.le_refl _) (by have := M9.out.hB.size; omega)))))
        (fun _ _ _ _ _ hs _ _ => hs)
        ⟨⟨h30, h20⟩, hD0, hC0, hB0⟩ ?_ ?_ ?_ ?_ ?_
      rotate_left
      · intro lr x W K hK
        gi_wp2
        exact hK
      · rintro lr pre x W ⟨⟨hx3, hx2⟩, hxD, hxC, hB⟩ hlt
        have hd : 1 ≤ 3 - 1 - 1 := by decide
        have hmx := hmx64
        obtain ⟨S, hS⟩ : ∃ S, FDX S1 TL pre = S := ⟨_, rfl⟩
        obtain ⟨ch, hch⟩ : ∃ ch, (TL.drop (x.val * 64)).take 64 = ch := ⟨_, rfl⟩
        obtain ⟨adx, hadx⟩ : ∃ adx, ad.add (x.val * 64) = adx := ⟨_, rfl⟩
        have hsn := FDX_snoc S1 TL pre x
        rw [hS, hch] at hsn
        rw [hS] at hx3
        have hxq : x.val * 64 + 64 ≤ TL.length := by have := x.isLt; rw [HTLL.out]; omega
        have hl64 : ch.length = 64 := by rw [← hch]; simp; omega
        have hby : ∀ i, Byte (ch.getD i 0) := by rw [← hch]; exact byte_cut TL HTLB.out _
        have hCc : Kd.C (Kd.int .u8) W (some adx) 64 ch := by
          have h0 := hxC
          rw [hA (by have := x.isLt; omega)] at h0
          rw [← hadx, ← hch]
          exact chunk64.cut W ad TL _ h0 hxq
        have HL64 := Aside0.mk hl64
        have HSN := Aside0.mk hsn
        rw [hadx]
        clear hS hch hadx hsn hxq hl64
        gi_wp2
        refine wpIn_region_any hmx ?_
        obtain ⟨W1, hW1⟩ : ∃ W1, { W with drawn := W.drawn + 1 } = W1 := ⟨_, rfl⟩
        have hh : W1.heap = W.heap := by rw [← hW1]
        have hb1 : ∀ N, Below N W W1 := fun N => by rw [← hW1]; exact ⟨rfl, rfl, rfl, Nat.le_refl _, fun _ _ => rfl⟩
        rw [hW1]
        have HX1 := Aside0.mk (show W1.heap[g3]? = some (.cells ((L5 S).map (Value.int .u32)).toArray 28 (0, 0)) by rw [hh]; exact hx3)
        have HCH1 : Aside0 (Kd.C (Kd.int .u8) W1 (some adx) ch.length ch) := ⟨by rw [HL64.out]; exact Kd.C_below hCc (hb1 _)⟩
        have HU38 : Aside0 (Try.prog.underlying 38 = some (.array ch.length 5)) := ⟨by rw [HL64.out]; exact Try.underlying38⟩
        have HI38 : Aside0 ((Try.prog.info? 38).map (·.size) = some ch.length) := ⟨by rw [HL64.out]; kernel_rfl⟩
        have hat := fun W => arr_at (P := Try.prog) Try.underlying38 (some adx) 64 64 (by decide) W
        have hcall := Aside0.mk (step_c S ch HL64.out hby W1)
        have hfin : ∀ wz, Below W1.heap.size W1 wz → ∀ a, ownPostK (chunk64.keep w9.heap.size (w9.heap.size + 1)) (fun (pre : List (Fin m)) W => (W.heap[g3]? = some (.cells ((L5 (FDX S1 TL pre)).map (Value.int .u32)).toArray 28 (0, 0)) ∧ W.heap[g2]? = some (.cells (Array.replicate 20 (.int .u8 0)) 25 (0, 0))) ∧ (W.heap[D]? = some (.deferred (some [])) ∧ (Kd.C (Kd.int .u8) W A9 TL.length TL ∧ Below w.heap.size w W))) (fun _ _ _ => False) (pre ++ [x]) W Exit.normal a (wz.setRow g3 ((L5 (STEP S ch)).map (Value.int .u32)).toArray) := by
          intro wz hbz a
          refine ⟨keeps_others hh hx3 hbz, keeps_boxes hh hx3 hbz, ⟨?_, ?_⟩, ?_, ?_, ?_⟩
          · rw [HSN.out]; exact setRow_heap wz g3 _ _ _ _ (blk_below HX1.out hbz)
          · exact keep_step hh hx3 hbz g2 _ hx2 (fun e => by injection e with e1 e2 e3; cases e2)
          · exact keep_step hh hx3 hbz D _ hxD (fun e => by cases e)
          · exact C_setRow (Kd.C_below (Kd.C_below hxC (hb1 _)) hbz) (blk_below HX1.out hbz) (nou8 _)
          · exact below_setRow (below_then (hB.trans (hb1 _)) (by rw [hh]; exact hB.size) hbz) gw3 _
        have hfin' := Aside0.mk hfin
        clear hfin hh hb1 hx2 hx3 hxD hxC hB hCc hby HL64 HSN hW1
        refine wpAnyIn_ready (rs := [0, 1]) (by kernel_rfl) (by simp) ?_
        refine AllReadyIn.cons rfl (fun K hK => ?_) (AllReadyIn.cons rfl (fun K hK => ?_) AllReadyIn.nil)
        · rw [if_pos (by rfl)]
          refine load_row_in 28 _ rfl g3 rfl 28 _ (0, 0) _ HX1.out hu28 rfl (by rw [L5_size]; kernel_rfl) ?_
          refine hK _ _ ?_
          clear hK K
          refine wpAnyIn_ready (rs := [1]) (by kernel_rfl) (by simp) ?_
          refine AllReadyIn.cons rfl (fun K hK => ?_) AllReadyIn.nil
          go_simp
          refine hK _ _ ?_
          clear hK K
          refine wpAnyIn_ready (rs := [2]) (by kernel_rfl) (by simp) ?_
          refine AllReadyIn.cons rfl (fun K hK => ?_) AllReadyIn.nil
          go_simp
          refine hK _ _ ?_
          clear hK K
          refine wpAnyIn_ready (rs := [3]) (by kernel_rfl) (by simp) ?_
          refine AllReadyIn.cons rfl (fun K hK => ?_) AllReadyIn.nil
          rw [if_pos (by rfl)]
          refine load_C_in .u8 ch adx 38 5 _ rfl rfl HCH1.out HU38.out HI38.out ?_
          refine hK _ _ ?_
          clear hK K
          refine wpAnyIn_ready (rs := [4]) (by kernel_rfl) (by simp) ?_
          refine AllReadyIn.cons rfl (fun K hK => ?_) AllReadyIn.nil
          go_simp
          try gi_at_call 17
          try (refine ⟨trivial, ?_⟩)
          refine (CallsIn.inRound lr (callsIn_wide.2 (hcall.out))).mono ?_
          rintro e_ wz ⟨rfl, hbz⟩
          go_simp
          refine hK _ _ ?_
          clear hK K
          refine wpAnyIn_ready (rs := [5]) (by kernel_rfl) (by simp) ?_
          refine AllReadyIn.cons rfl (fun K hK => ?_) AllReadyIn.nil
          rw [if_pos (by rfl)]
          refine store_row_in 28 _ _ rfl g3 ((L5 (STEP S ch)).map (Value.int .u32)).toArray rfl rfl 28 _ (blk_below HX1.out hbz) (by rw [L5_size]; kernel_rfl) rfl (one_cells _) ?_
          refine hK _ _ ?_
          clear hK K
          refine wpAnyIn_done (by kernel_rfl) ?_ _
          exact hfin'.out _ hbz ⟨#[], []⟩
        · go_simp
          refine hK _ _ ?_
          clear hK K
          refine wpAnyIn_ready (rs := [0, 2]) (by kernel_rfl) (by simp) ?_
          refine AllReadyIn.cons rfl (fun K hK => ?_) (AllReadyIn.cons rfl (fun K hK => ?_) AllReadyIn.nil)
          · rw [if_pos (by rfl)]
            refine load_row_in 28 _ rfl g3 rfl 28 _ (0, 0) _ HX1.out hu28 rfl (by rw [L5_size]; kernel_rfl) ?_
            refine hK _ _ ?_
            clear hK K
            refine wpAnyIn_ready (rs := [2]) (by kernel_rfl) (by simp) ?_
            refine AllReadyIn.cons rfl (fun K hK => ?_) AllReadyIn.nil
            go_simp
            refine hK _ _ ?_
            clear hK K
            refine wpAnyIn_ready (rs := [3]) (by kernel_rfl) (by simp) ?_
            refine AllReadyIn.cons rfl (fun K hK => ?_) AllReadyIn.nil
            rw [if_pos (by rfl)]
            refine load_C_in .u8 ch adx 38 5 _ rfl rfl HCH1.out HU38.out HI38.out ?_
            refine hK _ _ ?_
            clear hK K
            refine wpAnyIn_ready (rs := [4]) (by kernel_rfl) (by simp) ?_
            refine AllReadyIn.cons rfl (fun K hK => ?_) AllReadyIn.nil
            go_simp
            try gi_at_call 17
            try (refine ⟨trivial, ?_⟩)
            refine (CallsIn.inRound lr (callsIn_wide.2 (hcall.out))).mono ?_
            rintro e_ wz ⟨rfl, hbz⟩
            go_simp
            refine hK _ _ ?_
            clear hK K
            refine wpAnyIn_ready (rs := [5]) (by kernel_rfl) (by simp) ?_
            refine AllReadyIn.cons rfl (fun K hK => ?_) AllReadyIn.nil
            rw [if_pos (by rfl)]
            refine store_row_in 28 _ _ rfl g3 ((L5 (STEP S ch)).map (Value.int .u32)).toArray rfl rfl 28 _ (blk_below HX1.out hbz) (by rw [L5_size]; kernel_rfl) rfl (one_cells _) ?_
            refine hK _ _ ?_
            clear hK K
            refine wpAnyIn_done (by kernel_rfl) ?_ _
            exact hfin'.out _ hbz ⟨#[], []⟩
          · go_simp
            refine hK _ _ ?_
            clear hK K
            refine wpAnyIn_ready (rs := [0, 3]) (by kernel_rfl) (by simp) ?_
            refine AllReadyIn.cons rfl (fun K hK => ?_) (AllReadyIn.cons rfl (fun K hK => ?_) AllReadyIn.nil)
            · rw [if_pos (by rfl)]
              refine load_row_in 28 _ rfl g3 rfl 28 _ (0, 0) _ HX1.out hu28 rfl (by rw [L5_size]; kernel_rfl) ?_
              refine hK _ _ ?_
              clear hK K
              refine wpAnyIn_ready (rs := [3]) (by kernel_rfl) (by simp) ?_
              refine AllReadyIn.cons rfl (fun K hK => ?_) AllReadyIn.nil
              rw [if_pos (by rfl)]
              refine load_C_in .u8 ch adx 38 5 _ rfl rfl HCH1.out HU38.out HI38.out ?_
              refine hK _ _ ?_
              clear hK K
              refine wpAnyIn_ready (rs := [4]) (by kernel_rfl) (by simp) ?_
              refine AllReadyIn.cons rfl (fun K hK => ?_) AllReadyIn.nil
              go_simp
              try gi_at_call 17
              try (refine ⟨trivial, ?_⟩)
              refine (CallsIn.inRound lr (callsIn_wide.2 (hcall.out))).mono ?_
              rintro e_ wz ⟨rfl, hbz⟩
              go_simp
              refine hK _ _ ?_
              clear hK K
              refine wpAnyIn_ready (rs := [5]) (by kernel_rfl) (by simp) ?_
              refine AllReadyIn.cons rfl (fun K hK => ?_) AllReadyIn.nil
              rw [if_pos (by rfl)]
              refine store_row_in 28 _ _ rfl g3 ((L5 (STEP S ch)).map (Value.int .u32)).toArray rfl rfl 28 _ (blk_below HX1.out hbz) (by rw [L5_size]; kernel_rfl) rfl (one_cells _) ?_
              refine hK _ _ ?_
              clear hK K
              refine wpAnyIn_done (by kernel_rfl) ?_ _
              exact hfin'.out _ hbz ⟨#[], []⟩
            · rw [if_pos (by rfl)]
              refine load_C_in .u8 ch adx 38 5 _ rfl rfl HCH1.out HU38.out HI38.out ?_
              refine hK _ _ ?_
              clear hK K
              refine wpAnyIn_ready (rs := [0]) (by kernel_rfl) (by simp) ?_
              refine AllReadyIn.cons rfl (fun K hK => ?_) AllReadyIn.nil
              rw [if_pos (by rfl)]
              refine load_row_in 28 _ rfl g3 rfl 28 _ (0, 0) _ HX1.out hu28 rfl (by rw [L5_size]; kernel_rfl) ?_
              refine hK _ _ ?_
              clear hK K
              refine wpAnyIn_ready (rs := [4]) (by kernel_rfl) (by simp) ?_
              refine AllReadyIn.cons rfl (fun K hK => ?_) AllReadyIn.nil
              go_simp
              try gi_at_call 17
              try (refine ⟨trivial, ?_⟩)
              refine (CallsIn.inRound lr (callsIn_wide.2 (hcall.out))).mono ?_
              rintro e_ wz ⟨rfl, hbz⟩
              go_simp
              refine hK _ _ ?_
              clear hK K
              refine wpAnyIn_ready (rs := [5]) (by kernel_rfl) (by simp) ?_
              refine AllReadyIn.cons rfl (fun K hK => ?_) AllReadyIn.nil
              rw [if_pos (by rfl)]
              refine store_row_in 28 _ _ rfl g3 ((L5 (STEP S ch)).map (Value.int .u32)).toArray rfl rfl 28 _ (blk_below HX1.out hbz) (by rw [L5_size]; kernel_rfl) rfl (one_cells _) ?_
              refine hK _ _ ?_
              clear hK K
              refine wpAnyIn_done (by kernel_rfl) ?_ _
              exact hfin'.out _ hbz ⟨#[], []⟩
      · rintro D2 ys V hD2 hys ⟨⟨hx3, hx2⟩, hxD, hxC, hB⟩ hK2
        rw [FDX_all S1 TL ys hys] at hx3
        have hdig : FD S1 TL m = DIG l := by unfold DIG; rw [HLN.out, HQ.out, HS1.out, HTL.out, HM.out]
        rw [hdig] at hx3
        have hx3' := Aside0.mk hx3
        have hx2' := Aside0.mk hx2
        have hu5 := Aside0.mk (U5_DIG l)
        have hplen := PB_length (DIG l)
        have HD := Aside0.mk hxD
        have HD2 := Aside0.mk hK2
        have HBV := Aside0.mk hB
        clear hx3 hx2 hxD hxC hB hK2 hdig
        go_wp2_with (first | ((with_reducible refine gate_dst (N := 58) rfl ?_); refine wpList_load_row rfl 28 _ rfl g3 rfl 28 _ (0, 0) _ hx3'.out hu28 rfl (by rw [L5_size]; kernel_rfl) ?_) | (go_at_call 16; refine (from_c (DIG l) hu5.out _).mono ?_; rintro e_ wf ⟨rfl, hbf⟩; have X2 := Aside0.mk (blk_below hx2'.out hbf); have XD := Aside0.mk (blk_below HD.out hbf); have XD2 := Aside0.mk (blk_below HD2.out hbf); have XB := Aside0.mk (below_step HBV.out hbf); clear hbf) | (refine wpList_store_row rfl 25 _ _ rfl g2 _ rfl rfl 25 _ X2.out (by rw [size_map .u8 _ 20 hplen]; kernel_rfl) (by rw [size_map .u8 _ 20 hplen]; simp) (one_cells _) ?_))
        have hD2w : w.heap.size ≤ D2 := Nat.le_trans hB0.size hD2
        have hDD : D ≠ D2 := by have := M9.out.lD; have := M9.out.sz; omega
        have x2 := setRow_heap wf g2 _ ((PB (DIG l)).map (Value.int .u8)).toArray _ _ X2.out
        have n1 := cells_ne X2.out XD.out
        have n2 := cells_ne X2.out XD2.out
        have xd := (setRow_other wf g2 D ((PB (DIG l)).map (Value.int .u8)).toArray (Ne.symm n1)).trans XD.out
        have xd2 := (setRow_other wf g2 D2 ((PB (DIG l)).map (Value.int .u8)).toArray (Ne.symm n2)).trans XD2.out
        have xb := below_setRow XB.out gw2 ((PB (DIG l)).map (Value.int .u8)).toArray
        clear X2 XD XD2 XB
        generalize wf.setRow g2 ((PB (DIG l)).map (Value.int .u8)).toArray = Y at x2 xd xd2 xb ⊢
        refine ⟨by simp, .inl ⟨_, _, rfl, run_takeDeferred xd2, ?_⟩⟩
        refine ⟨by simp, .inl ⟨_, _, rfl, run_takeDeferred (put_other xd hDD), ?_⟩⟩
        refine ⟨_, results_cell_row rfl _ _ g2 25 _ (0, 0) _ rfl (put_other (put_other x2 n2) n1) hu25 rfl (by rw [size_map .u8 _ 20 hplen]; kernel_rfl), ?_⟩
        exact ⟨rfl, (xb.trans (belowK_b (w := w) (Nat.le_refl _) _ D2 _ _ hD2w xd2 rfl rfl)).trans (belowK_b (w := w) (Nat.le_refl _) _ D _ _ HDW.out (put_other xd hDD) rfl rfl)⟩
      · rintro D2 cx pre V _ _ h _
        exact h.elim
  · rintro D cx pre W _ _ h _
    exact h.elim
end
end Go.Proofs.Ytjffbdgidddbjaa
