/-
  SHA-1: the digest of words, a digest's words, a digest as a text, and the document's bytes, walked by hand.
-/
import Derived.Test.YtjffbdgidddbjaaShaPure
namespace Go.Proofs.Ytjffbdgidddbjaa
set_option linter.unusedVariables false
set_option linter.unusedSimpArgs false
set_option linter.unnecessarySimpa false
open Go.RowKit Go.Proofs.YtjffbdgidddbjaaW.PrintWords Go.Proofs.YtjffbdgidddbjaaW.PrintLast Go.Proofs.YtjffbdgidddbjaaW.PrintMore Go.Proofs.Ytjffbdgidddbjaa.MSha1Sums Go.Proofs.Ytjffbdgidddbjaa.Base
theorem C_box {W : World} {g : Nat} {t : TypeId} {fr : Nat × Nat} (kk : IntKind) (l : List Int) (hm : l.length ≤ 9223372036854775807) (h : W.heap[g]? = some (.cells (l.map (Value.int kk)).toArray t fr)) : Kd.C (Kd.int kk) W (some ⟨g, 0, none⟩) l.length l := by
  refine ⟨rfl, hm, fun _ => ⟨_, rfl, fun j p hj => ⟨[.int kk p], rfl, rfl, fun i u hu => ?_⟩⟩⟩
  cases i with
  | succ i => simp at hu
  | zero =>
    obtain rfl : Value.int kk p = u := by simpa using hu
    have hz : (Kd.int kk).sz = 1 := rfl
    rw [hz, show (⟨g, 0, none⟩ : Addr).add (j * 1 + 0) = ⟨g, j, none⟩ by unfold Addr.add; split <;> simp_all, cell_of_row W g j _ t fr h]
    simp [hj]
theorem C_cell {W : World} {ad : Addr} (kk : IntKind) (l : List Int) (h : Kd.C (Kd.int kk) W (some ad) l.length l) (j : Nat) (hj : j < l.length) : W.cell? (ad.add j) = some (.int kk (l.getD j 0)) := by
  obtain ⟨ad', e, hc⟩ := h.2.2 (by omega)
  cases e
  obtain ⟨c1, h1, h2, h3⟩ := hc j (l.getD j 0) (by simp [hj])
  have hz : (Kd.int kk).sz = 1 := rfl
  have h1' : c1 = [.int kk (l.getD j 0)] := h2
  have := h3 0 (.int kk (l.getD j 0)) (by rw [h1']; rfl)
  rw [hz] at this
  simpa using this
section
variable {P : Program}
theorem run_load_C (w : World) (kk : IntKind) (l : List Int) (ad : Addr) (ty e : TypeId) (h : Kd.C (Kd.int kk) w (some ad) l.length l) (hu : P.underlying ty = some (.array l.length e)) (hi : (P.info? ty).map (·.size) = some l.length) :
    (loadVar ty ad).run P w = .ok (.agg (l.map (Value.int kk)).toArray) w := by
  have hl := run_loadCells_list (P := P) w ad (l.map (Value.int kk)) (fun j v hv => by
    have hj : j < l.length := by have := (List.getElem?_eq_some_iff.1 hv).1; simpa using this
    rw [C_cell kk l h j hj]
    simp [hj] at hv ⊢
    exact hv)
  cases hq : P.info? ty with
  | none => simp [hq] at hi
  | some i =>
    have hs : i.size = l.length := by simpa [hq] using hi
    have hagg : (isAgg ty).run P w = .ok true w := by
      unfold isAgg
      rw [Sem.run_bind, run_underlying hu w]
      rfl
    rw [List.length_map] at hl
    simp [loadVar, Sem.run_bind, hagg, sizeOf, typeInfo, hq, hs, hl]
theorem wpList_load_C {ops : Array Oper} {rest : List Oper} {o : Oper} {a : Act} {w : World} {Q : Exit → Act → World → Prop} (hgd : o.guard = none) (kk : IntKind) (l : List Int) (ad : Addr) (ty e : TypeId) (x : Operand) (ho : o.op = .load ty x)
    (hx : a.eval x = .pointer (some ad)) (h : Kd.C (Kd.int kk) w (some ad) l.length l) (hu : P.underlying ty = some (.array l.length e)) (hi : (P.info? ty).map (·.size) = some l.length)
    (hK : wpList P ops Q rest (a.put o.dst (.agg (l.map (Value.int kk)).toArray)) w) : wpList P ops Q (o :: rest) a w := by
  refine wpList_plain hgd fun _ hk => ?_
  unfold Oper.wp execOp
  simp only [ho, hx, Instr.loadAt, Instr.sureAddr, Sem.run_bind, Sem.run_pure, Result.andThen_ok, run_load_C w kk l ad ty e h hu hi]
  exact hk _ _ hK
theorem arr_at {ty e : TypeId} {n : Nat} (hu : P.underlying ty = some (.array n e)) (A : Option Addr) (m c : Nat) (h : ¬ m < n) (W : World) : Sem.run P (Instr.arrayAt ty (.slice A m c)) W = .ok (.pointer A) W := by
  simp only [Instr.arrayAt, Sem.run_bind, run_underlying hu, Result.andThen_ok]
  rw [if_neg h]
  rfl
theorem zero_of {t : TypeId} {v : Value} (h : (P.info? t).map (·.zero) = some (some v)) (W : World) : Sem.run P (zeroValue t) W = .ok v W := by
  cases hq : P.info? t with
  | none => rw [hq] at h; cases h
  | some i =>
    rw [hq] at h
    have hz : i.zero = some v := Option.some.inj h
    simp [zeroValue, typeInfo, hq, hz]
end
def D20 (l : List Int) : Value := .agg (l.map (Value.int .u8)).toArray
theorem one_u8 (l : List Int) : (l.map (Value.int .u8)).toArray.all (·.oneCell') = true := one_cells l
theorem size_map (kk : IntKind) (l : List Int) (n : Nat) (h : l.length = n) : (l.map (Value.int kk)).toArray.size = n := by simp [h]
theorem A5_is (s : St) : A5 s = .agg ((L5 s).map (Value.int .u32)).toArray := rfl
set_option maxHeartbeats 4000000 in
set_option maxRecDepth 100000 in
theorem from_c (s : St) (hs : U5 s) (w : World) : Calls Try.prog 16 #[A5 s] w fun e w' => e = .returned (D20 (PB s)) ∧ Below w.heap.size w w' := by
  have hu25 := Try.underlying25
  have hu28 := Try.underlying28
  have z25 := zero_of (P := Try.prog) (t := 25) (v := .agg (Array.replicate 20 (.int .u8 0))) (by kernel_rfl)
  obtain ⟨k, hk⟩ := Ev.ok (put5_is s hs)
  have HP := Aside0.mk hk
  clear hk
  have hlen := PB_length s
  unfold A5 D20
  go_enter Try.func16, Try.ntmps16
  go_wp2_with (first | ((with_reducible refine gate_dst (N := 1) rfl ?_); refine box_event ?hg (N := 1) ?hd (cs := ((L5 s).map (Value.int .u32)).toArray) (t := 28) ?hr ?_; (case hd => rfl); (case hg => rfl); (case hr => go_simp; try rfl); intro g1 hg1_ w1 hx1 hb1; have hg1 := Aside0.mk hg1_; clear hg1_) | ((with_reducible refine gate_dst (N := 2) rfl ?_); refine box_event ?hg (N := 2) ?hd (cs := Array.replicate 20 (.int .u8 0)) (t := 25) ?hr ?_; (case hd => rfl); (case hg => rfl); (case hr => go_simp); intro g2 hg2_ w2 hx2 hb2; have hg2 := Aside0.mk hg2_; clear hg2_) | (go_at_call 26; refine (octets_Put_uint32.calls k none 0 [] (some ⟨g1, 0, none⟩) 5 (L5 s) (PB s) _ (Kd.C_nil _ _) (by decide) (C_box .u32 (L5 s) (show 5 ≤ 9223372036854775807 by decide) (blk_below hx1 hb2)) (show 5 ≤ 5 by decide) HP.out).mono ?_; rintro e_ w3 ⟨v3, rfl, hr3, hb3⟩; obtain ⟨A3, c3, rfl, hc3, hC3⟩ := Kd.R_reads hr3; obtain ⟨ad3, ead, _⟩ := hC3.2.2 (by rw [hlen]; decide); subst ead; have hat := fun W => arr_at (P := Try.prog) hu25 (some ad3) 20 c3 (by decide) W; have Y3 := Aside0.mk hC3; have Y2 := Aside0.mk (blk_below hx2 hb3); have YW := Aside0.mk (below_step (below_step hb1 hb2) hb3); have GW := Aside0.mk (show w.heap.size ≤ g2 by rw [hg2.out]; exact below_size hb1); clear hr3 hC3 hx1 hx2 hb1 hb2 hb3) | ((with_reducible refine gate_dst (N := 6) rfl ?_); refine wpList_load_C rfl .u8 (PB s) ad3 25 5 _ rfl rfl Y3.out (by rw [hlen]; exact hu25) (by rw [hlen]; kernel_rfl) ?_) | (refine wpList_store_row rfl 25 _ _ rfl g2 _ rfl rfl 25 _ Y2.out (by rw [size_map .u8 _ 20 hlen]; kernel_rfl) (by rw [size_map .u8 _ 20 hlen]; simp) (one_cells _) ?_))
  refine bodyPost_ret (results_cell_row rfl _ _ g2 25 _ (0, 0) _ rfl (setRow_heap _ _ _ _ _ _ Y2.out) hu25 rfl (by rw [size_map .u8 _ 20 hlen]; kernel_rfl)) rfl ?_
  exact ⟨rfl, below_setRow YW.out GW.out _⟩
set_option maxHeartbeats 4000000 in
set_option maxRecDepth 100000 in
theorem words_c (s : St) (hs : U5 s) (w : World) : Calls Try.prog 9 #[D20 (PB s)] w fun e w' => e = .returned (A5 s) ∧ Below w.heap.size w w' := by
  have hu25 := Try.underlying25
  have hu28 := Try.underlying28
  obtain ⟨k, hk⟩ := Ev.ok (list5_is s hs)
  have HP := Aside0.mk hk
  clear hk
  have hlen := PB_length s
  unfold A5 D20
  go_enter Try.func9, Try.ntmps9
  go_wp2_with (first | ((with_reducible refine gate_dst (N := 1) rfl ?_); refine box_event ?hg (N := 1) ?hd (cs := ((PB s).map (Value.int .u8)).toArray) (t := 25) ?hr ?_; (case hd => rfl); (case hg => rfl); (case hr => go_simp; try rfl); intro g1 hg1_ w1 hx1 hb1; have hg1 := Aside0.mk hg1_; clear hg1_) | ((with_reducible refine gate_dst (N := 2) rfl ?_); refine box_event ?hg (N := 2) ?hd (cs := #[.int .u32 0, .int .u32 0, .int .u32 0, .int .u32 0, .int .u32 0]) (t := 28) ?hr ?_; (case hd => rfl); (case hg => rfl); (case hr => go_simp; try rfl); intro g2 hg2_ w2 hx2 hb2; have hg2 := Aside0.mk hg2_; clear hg2_; have hl20 : Aside0 (Value.slice (some ⟨g1, 0, none⟩) 20 20 = .slice (some ⟨g1, 0, none⟩) (PB s).length 20) := ⟨by rw [hlen]⟩) | (go_at_call 23; rw [hl20.out]; refine (octets_List_uint32.calls k (some ⟨g1, 0, none⟩) 20 (PB s) 0 5 (L5 s) none _ (C_box .u8 (PB s) (by rw [hlen]; decide) (blk_below hx1 hb2)) (by rw [hlen]; decide) HP.out).mono ?_; rintro e_ w3 ⟨v3, rfl, hr3, hb3⟩; obtain ⟨A3, c3, rfl, hc3, hC3⟩ := Kd.R_reads hr3; obtain ⟨ad3, ead, _⟩ := hC3.2.2 (show 0 < 5 by decide); subst ead; have hat := fun W => arr_at (P := Try.prog) hu28 (some ad3) (L5 s).length c3 (show ¬ 5 < 5 by decide) W; have Y3 := Aside0.mk hC3; have Y2 := Aside0.mk (blk_below hx2 hb3); have YW := Aside0.mk (below_step (below_step hb1 hb2) hb3); have GW := Aside0.mk (show w.heap.size ≤ g2 by rw [hg2.out]; exact below_size hb1); clear hr3 hC3 hx1 hx2 hb1 hb2 hb3; rw [errW_none]) | ((with_reducible refine gate_dst (N := 15) rfl ?_); refine wpList_load_C rfl .u32 (L5 s) ad3 28 27 _ rfl rfl Y3.out hu28 (by kernel_rfl) ?_) | (refine wpList_store_row rfl 28 _ _ rfl g2 _ rfl rfl 28 _ Y2.out (by rw [L5_size s]; kernel_rfl) rfl (one_cells _) ?_))

  refine bodyPost_ret (results_cell_row rfl _ _ g2 28 _ (0, 0) _ rfl (setRow_heap _ _ _ _ _ _ Y2.out) hu28 rfl (by rw [L5_size s]; kernel_rfl)) rfl ?_
  exact ⟨rfl, below_setRow YW.out GW.out _⟩
theorem index_arr {t e : TypeId} {kk : IntKind} {n : Nat} (hu : Try.prog.underlying t = some (.array n e)) (hue : Try.prog.underlying e = some (.int kk)) (hi : (Try.prog.info? e).map (·.size) = some 1)
    (l : List Int) (k : Nat) (hl : l.length = n) (h : k < n) (W : World) : Sem.run Try.prog (Instr.index t (.agg (l.map (Value.int kk)).toArray) (.int .i64 (k : Int))) W = .ok (.int kk (l.getD k 0)) W := by
  have d : (k : Int) < n := by omega
  have e0 := cell_k kk l k (by omega)
  cases hq : Try.prog.info? e with
  | none => rw [hq] at hi; cases hi
  | some i =>
    rw [hq] at hi
    have hz : i.size = 1 := Option.some.inj hi
    simp only [Instr.index, asIntOf, Sem.run_bind, Sem.run_pure, Result.andThen_ok, run_underlying hu]
    rw [if_pos ⟨by omega, d⟩]
    have e1 : Sem.run Try.prog program W = .ok Try.prog W := rfl
    have e2 : Sem.run Try.prog (isAgg e) W = .ok false W := by
      unfold isAgg
      rw [Sem.run_bind, run_underlying hue]
      rfl
    have e3 : Sem.run Try.prog (pure i : Sem TypeInfo) W = .ok i W := rfl
    have e4 : (k : Int).toNat * 1 = k := by omega
    simp only [sizeOf, typeInfo, Sem.run_bind, e1, Result.andThen_ok, hq, e3, Sem.run_pure, hz, part, e2, e4, e0]
    rfl
def sg (y : Int) : Int := if y < 10 then (48 + y) % 256 else ((97 + y) - 10) % 256
theorem sign_is (y : Int) : sha1_sign.f y = some (sg y) := by unfold sha1_sign.f sg; split <;> rfl
def hexs : List Int → List Int
  | [] => []
  | x :: r => sg (x / 16) :: sg (x % 16) :: hexs r
theorem hexs_len : ∀ l, (hexs l).length = 2 * l.length
  | [] => rfl
  | x :: r => by simp [hexs, hexs_len r]; omega
theorem hexs_app : ∀ a b, hexs (a ++ b) = hexs a ++ hexs b
  | [], _ => rfl
  | x :: r, b => by simp [hexs, hexs_app r b]
theorem hexs_take (l : List Int) (k : Nat) (h : k < l.length) : hexs (l.take (k + 1)) = hexs (l.take k) ++ [sg (l.getD k 0 / 16), sg (l.getD k 0 % 16)] := by
  rw [List.take_succ_eq_append_getElem h, hexs_app]
  simp [hexs, h]
set_option maxHeartbeats 4000000 in
set_option maxRecDepth 100000 in
theorem hex_c (l : List Int) (hl : l.length = 20) (hb : ∀ i, Byte (l.getD i 0)) (w : World) : Calls Try.prog 12 #[D20 l] w fun e w' => e = .returned (.string (strOfNums (hexs l))) ∧ Below w.heap.size w w' := by
  have hu25 := Try.underlying25
  have hu22 := Try.underlying22
  have HB := Aside0.mk hb
  clear hb
  unfold D20
  go_enter Try.func12, Try.ntmps12
  go_wp2_with (first | ((with_reducible refine gate_dst (N := 1) rfl ?_); refine box_event ?hg (N := 1) ?hd (cs := (l.map (Value.int .u8)).toArray) (t := 25) ?hr ?_; (case hd => rfl); (case hg => rfl); (case hr => go_simp; try rfl); intro g1 hg1_ w1 hx1 hb1; have hg1 := Aside0.mk hg1_; clear hg1_) | ((with_reducible refine gate_dst (N := 6) rfl ?_); refine wpList_load_row rfl 25 _ rfl g1 rfl 25 _ (0, 0) _ hx1 hu25 rfl (by rw [size_map .u8 _ 20 hl]; kernel_rfl) ?_))
  have B1 := Aside0.mk hb1
  clear hb1 hx1 hg1
  go_loopw [3, 7] (fun v3 v7 wr => ∃ k : Nat, k ≤ 20 ∧ v7 = .int .i64 k ∧ Aside0 (Kd.R (Kd.int .u8) 5 wr w.heap.size (fun _ => True) v3 (hexs (l.take k))) ∧ Aside0 (Below w.heap.size w wr)) (fun _ v7 _ => 20 - (intOf v7).toNat)
  case atStart => exact ⟨0, by omega, rfl, ⟨Kd.R_nil _ _ _ _ _⟩, B1⟩
  case round =>
    clear B1
    obtain ⟨k, hk, rfl, R, B⟩ := hrel
    by_cases h20 : k < 20
    · have d0 : decide ((k : Int) < 20) = true := by simp; omega
      have q0 : wrap64 ((k : Int) + 1) = ((k + 1 : Nat) : Int) := by unfold wrap64; omega
      have hix := fun W => index_arr Try.underlying25 Try.underlying5 (by kernel_rfl) l k hl h20 W
      obtain ⟨x, hx⟩ : ∃ x, l.getD k 0 = x := ⟨_, rfl⟩
      have HX := Aside0.mk hx
      have HT := Aside0.mk (hexs_take l k (by omega))
      rw [hx] at hix HT
      clear hx
      have h15 : Go.bits .and .u8 x 15 = x % 16 := u8_and15 x (by have := HB.out k; rw [HX.out] at this; unfold Byte at this; omega) (by have := HB.out k; rw [HX.out] at this; unfold Byte at this; omega)
      have hl2 : (hexs (l.take k)).length ≤ 40 := by rw [hexs_len]; simp; omega
      obtain ⟨acc, hacc⟩ : ∃ acc, hexs (l.take k) = acc := ⟨_, rfl⟩
      rw [hacc] at R HT hl2
      clear hacc
      have HL2 := Aside0.mk hl2
      clear hl2
      go_wp2_with (first | (go_at_call 25; refine (sha1_sign.calls _ _ _ (sign_is _)).mono ?_; rintro e_ w' ⟨rfl, ⟨⟨m_, rfl⟩⟩⟩) | ((with_reducible refine gate_dst (N := 17) rfl ?_); refine Kd.R_lit (Kd.int .u8) w.heap.size 5 ?hg (N := 17) ?hd (w0 := w) (xs := [sg (x / 16), sg (x % 16)]) (inner := [.int .u8 (sg (x / 16)), .int .u8 (sg (x % 16))]) (ok := fun _ => True) (okp := fun _ => True) ?hr ?hp (fun _ hk => hk) trivial ?hB ?hs (by simp) ?_; (case hd => rfl); (case hg => rfl); (case hr => first | (go_simp; done) | (go_simp; rfl)); (case hp => exact octets_List_uint32.reps .u8 [sg (x / 16), sg (x % 16)]); (case hB => exact pw_below_drewN B.out _); (case hs => exact below_size (pw_below_drewN B.out _)); intro v17 w17 ho17 hb17 hg17 hn17; have R' := Aside0.mk (Kd.R_grown (Kd.R_drewN R.out _) hg17 (fun k_ _ e_ => by cases e_)); obtain ⟨A17, c17, rfl, hc17, hC17⟩ := Kd.R_reads ho17; have C17 := Aside0.mk hC17; have B17 := Aside0.mk hb17; clear ho17 hb17 hg17 hn17 hC17) | ((with_reducible refine gate_builtin (b := .append) (xs := #[.tmp 10, .tmp 17]) rfl ?_); at_builtin; refine Kd.R_append_rows (Kd.int .u8) (w0 := w) w.heap.size rfl (.tmp 10) (.tmp 17) 22 5 (.int .u8 0) 1 rfl Try.underlying22 (by kernel_rfl) rfl (by decide) (by omega) u3 acc [sg (x / 16), sg (x % 16)] _ _ _ (fun _ => True) (fun _ => False) rfl rfl R'.out C17.out (fun _ _ h => h) (fun _ h => h.elim) (fun _ _ => trivial) B17.out B17.out.size ?aL ?_; (case aL => have := HL2.out; (try simp only [List.length_append, List.length_cons, List.length_nil]); omega); intro v9 w9 ho9 hb9 hg9 hat9; have R9 := Aside0.mk ho9; have B9 := Aside0.mk hb9; clear ho9 hb9 hg9 hat9))
      go_roundw
      case rel => exact ⟨k + 1, by omega, rfl, ⟨by rw [HT.out]; exact R9.out⟩, B9⟩
      case measure => simp [intOf]; omega
    · obtain rfl : k = 20 := by omega
      have d0 : decide (((20 : Nat) : Int) < 20) = false := by decide
      have et : l.take 20 = l := List.take_of_length_le (by omega)
      rw [et] at R
      obtain ⟨A3, c3, rfl, hc3, hC3⟩ := Kd.R_reads R.out
      have hcv := fun W (h : (Kd.int .u8).C W A3 (hexs l).length (hexs l)) => Kd.C_string (P := Try.prog) (w := W) (src := 22) (dst := 9) (e := 5) (A := A3) (n := (hexs l).length) (c := c3) (xs := hexs l) Try.underlying22 Try.underlying5 Try.underlying9 h
      have hcw := hcv wr hC3
      go_wp2
      go_ret
      exact ⟨rfl, B.out⟩
def encW : List Int → List Int
  | [] => []
  | x :: r => BE 4 x ++ encW r
theorem encW_app : ∀ a b, encW (a ++ b) = encW a ++ encW b
  | [], _ => rfl
  | x :: r, b => by simp [encW, encW_app r b]
theorem encW_len : ∀ l, (encW l).length = 4 * l.length
  | [] => rfl
  | x :: r => by simp [encW, encW_len r, BE_length]; omega
theorem encW_take (l : List Int) (k : Nat) (h : k < l.length) : encW (l.take (k + 1)) = encW (l.take k) ++ BE 4 (l.getD k 0) := by
  rw [List.take_succ_eq_append_getElem h, encW_app]
  simp [encW, h]
theorem encW_5 (s : St) : encW (L5 s) = PB s := by simp [encW, L5, PB]
theorem L5_32 (s : St) (hs : U5 s) (k : Nat) (hk : k < 5) : B32 ((L5 s).getD k 0) := by
  obtain ⟨a, b, c, d, e⟩ := s
  obtain ⟨h0, h1, h2, h3, h4⟩ := hs
  match k, hk with
  | 0, _ => exact h0
  | 1, _ => exact h1
  | 2, _ => exact h2
  | 3, _ => exact h3
  | 4, _ => exact h4
set_option maxHeartbeats 4000000 in
set_option maxRecDepth 100000 in
theorem rbytes_c (s : St) (hs : U5 s) (w : World) : Calls Try.prog 11 #[A5 s] w fun e w' => ∃ v, e = .returned v ∧ Kd.R (Kd.int .u8) 5 w' w.heap.size (fun _ => True) v (PB s) ∧ Below w.heap.size w w' := by
  have hu28 := Try.underlying28
  have hu22 := Try.underlying22
  have HS := Aside0.mk hs
  clear hs
  unfold A5
  go_enter Try.func11, Try.ntmps11
  go_wp2_with (first | ((with_reducible refine gate_dst (N := 1) rfl ?_); refine box_event ?hg (N := 1) ?hd (cs := ((L5 s).map (Value.int .u32)).toArray) (t := 28) ?hr ?_; (case hd => rfl); (case hg => rfl); (case hr => go_simp; try rfl); intro g1 hg1_ w1 hx1 hb1; have hg1 := Aside0.mk hg1_; clear hg1_))
  have B1 := Aside0.mk hb1
  have X1 := Aside0.mk hx1
  have GW := Aside0.mk (show w.heap.size ≤ g1 by rw [hg1.out]; omega)
  have GK := Aside0.mk (show ∀ k : Nat, w1.heap.size ≤ k → k ≠ g1 from fun k hk => by have := blk_lt hx1; omega)
  clear hb1 hx1 hg1
  go_loopw [3, 4] (fun v3 v4 wr => ∃ k : Nat, k ≤ 5 ∧ v4 = .int .i64 k ∧ Aside0 (wr.heap[g1]? = some (.cells ((L5 s).map (Value.int .u32)).toArray 28 (0, 0))) ∧ Aside0 (Kd.R (Kd.int .u8) 5 wr w.heap.size (fun k_ => k_ ≠ g1) v3 (encW ((L5 s).take k))) ∧ Aside0 (Below w.heap.size w wr)) (fun _ v4 _ => 5 - (intOf v4).toNat)
  case atStart => exact ⟨0, by omega, rfl, X1, ⟨Kd.R_nil _ _ _ _ _⟩, B1⟩
  case round =>
    clear B1 X1
    obtain ⟨k, hk, rfl, X, R, B⟩ := hrel
    by_cases h5 : k < 5
    · have d0 : decide ((k : Int) < 5) = true := by simp; omega
      have q0 : wrap64 ((k : Int) + 1) = ((k + 1 : Nat) : Int) := by unfold wrap64; omega
      have hlt : (k : Int) < 5 := by omega
      obtain ⟨x, hx⟩ : ∃ x, (L5 s).getD k 0 = x := ⟨_, rfl⟩
      have HT := Aside0.mk (encW_take (L5 s) k h5)
      have h32 := L5_32 s HS.out k h5
      have hc : wr.cell? ⟨g1, k, none⟩ = some (.int .u32 x) := by rw [blk_cell X.out, cell_k .u32 (L5 s) k h5, hx]
      rw [hx] at HT h32
      have hn : IntKind.u64.wrap x = x := by rw [wrap_u64]; unfold B32 at h32; omega
      obtain ⟨kn, hkn⟩ := Ev.ok (rnum_e (n := x) (b64 h32) (m := 4) (by decide) (y := 4) rfl)
      have HN := Aside0.mk hkn
      clear hkn h32 hx
      have hl2 : (encW ((L5 s).take k)).length ≤ 20 := by rw [encW_len]; simp; omega
      obtain ⟨acc, hacc⟩ : ∃ acc, encW ((L5 s).take k) = acc := ⟨_, rfl⟩
      rw [hacc] at R HT hl2
      have HL2 := Aside0.mk hl2
      clear hacc hl2
      go_wp2_with (first | (go_at_call 24; refine (horologeref03_Number.calls kn x 4 _ _ HN.out).mono ?_; rintro e_ w7 ⟨v7, rfl, hr7, hb7⟩; obtain ⟨A7, c7, rfl, hc7, hC7⟩ := Kd.R_reads hr7; have C7 := Aside0.mk hC7; have R7 := Aside0.mk (Kd.R_below R.out hb7); have X7 := Aside0.mk (blk_below X.out hb7); have B7 := Aside0.mk (below_step B.out hb7); have L7 := Aside0.mk (blk_lt (blk_below X.out hb7)); clear hr7 hC7 hb7) | ((with_reducible refine gate_builtin (b := .append) (xs := #[.tmp 9, .tmp 14]) rfl ?_); at_builtin; refine Kd.R_append_rows (Kd.int .u8) (w0 := w) w.heap.size rfl (.tmp 9) (.tmp 14) 22 5 (.int .u8 0) 1 rfl Try.underlying22 (by kernel_rfl) rfl (by decide) (by omega) u3 acc (BE 4 x) _ _ _ (fun k_ => k_ ≠ g1) (fun _ => False) rfl rfl R7.out C7.out (fun _ _ h => h) (fun _ h => h.elim) (fun k_ hk_ => by have := L7.out; omega) B7.out B7.out.size ?aL ?_; (case aL => have := HL2.out; (try simp only [List.length_append, List.length_cons, List.length_nil, BE_length]); omega); intro v9 w9 ho9 hb9 hg9 hat9; have X9 := Aside0.mk (blk_grown X7.out hg9 (fun e_ => R7.out.1 g1 e_.symm rfl)); have R9 := Aside0.mk ho9; have B9 := Aside0.mk hb9; clear ho9 hb9 hg9 hat9))
      go_roundw
      case rel => exact ⟨k + 1, by omega, rfl, X9, ⟨by rw [HT.out]; exact R9.out⟩, B9⟩
      case measure => simp [intOf]; omega
    · obtain rfl : k = 5 := by omega
      have d0 : decide (((5 : Nat) : Int) < 5) = false := by decide
      have et : (L5 s).take 5 = L5 s := List.take_of_length_le (show 5 ≤ 5 by decide)
      rw [et, encW_5] at R
      go_wp2
      go_ret
      exact ⟨_, rfl, Kd.R_mono R.out (fun _ _ => trivial), B.out⟩
end Go.Proofs.Ytjffbdgidddbjaa
