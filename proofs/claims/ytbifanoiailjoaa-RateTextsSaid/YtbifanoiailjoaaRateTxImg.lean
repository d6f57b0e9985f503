/- A table of texts is the image of a table of numbers. Plain lists. -/
import Derived.Test.YtbifanoiailjoaaRateTxOrd
import Derived.Test.YtbifanoiailjoaaRateMU
import Derived.Test.YtbifanoiailjoaaRateMS
namespace Go.Proofs.Ytbifanoiailjoaa.MRatePlays
open Go.RowKit Go.Proofs.YtbifanoiailjoaaW.PrintWords Go.Proofs.YtbifanoiailjoaaW.PrintLast Go.Proofs.YtbifanoiailjoaaW.PrintMore Go.Proofs.Ytbifanoiailjoaa.Base
set_option linter.unusedVariables false
set_option linter.unusedSimpArgs false

def im1 (x : S37) : S60 := ⟨raw10 x.f0, x.f1, x.f2⟩
def img (es : List S37) : List S60 := es.map im1
def KU (es : List S37) : Prop := ∀ x ∈ es, U32 x.f0
theorem KU.sub {a b : List S37} (h : KU b) (hs : a.Sublist b) : KU a := fun x hx => h x (hs.subset hx)
theorem img_len (es : List S37) : (img es).length = es.length := List.length_map ..
theorem low_img (k : Int) (hk : U32 k) : ∀ (es : List S37), KU es → lows (img es) (raw10 k) = lowu es k
  | [], _ => rfl
  | x :: r, h => by
    have ih := low_img k hk r (fun y hy => h y (List.mem_cons_of_mem _ hy))
    have hl := lts_raw x.f0 k (h x List.mem_cons_self) hk
    unfold lows lowu at ih ⊢
    show (List.takeWhile _ (im1 x :: img r)).length = _
    rw [List.takeWhile_cons, List.takeWhile_cons]
    show (if lts (raw10 x.f0) (raw10 k) = true then _ else _ : List S60).length = _
    rw [hl]
    cases ltu x.f0 k with
    | true => simpa using ih
    | false => rfl
theorem rd_img (es : List S37) (i : Nat) (h : i < es.length) : rd_T60 (img es) i = im1 (rd_T37 es i) := by
  rw [rds_get (img es) i (by rw [img_len]; exact h), rdu_get es i h]
  exact List.getElem_map ..
theorem has_img (es : List S37) (k : Int) (hk : U32 k) (h : KU es) : hass (img es) (raw10 k) = hasu es k := by
  rw [hass_eq _ _ _ (low_img k hk es h), hasu_eq es k _ rfl, img_len]
  by_cases q : lowu es k < es.length
  · rw [rd_img es _ q]
    show (_ && decide (cps (raw10 (rd_T37 es (lowu es k)).f0) (raw10 k) = 0)) = _
    rw [cps_raw _ _ (by rw [rdu_get es _ q]; exact h _ (List.getElem_mem _)) hk]
  · simp [q]
theorem ans_img (es : List S37) (k m span : Int) (hk : U32 k) (h : KU es) : anss (img es) (raw10 k) m span = ansu es k m span := by
  unfold anss ansu
  rw [has_img es k hk h, low_img k hk es h]
  cases q : hasu es k with
  | false => rfl
  | true =>
    rw [rd_img es _ (hasu_lt es k q)]
    rfl
theorem fgt_img (es : List S37) (k : Int) (hk : U32 k) (h : KU es) : fgts (img es) (raw10 k) = img (fgtu es k) := by
  unfold fgts fgtu
  rw [has_img es k hk h, low_img k hk es h]
  cases hasu es k with
  | false => rfl
  | true =>
    simp only [if_true]
    unfold img
    rw [List.map_append, List.map_take, List.map_drop]
theorem old_img (x y : S37) (hx : U32 x.f0) (hy : U32 y.f0) : olds (im1 x) (im1 y) = oldu x y := by
  unfold olds oldu
  show (if cp64 x.f1 y.f1 = 0 then cps (raw10 x.f0) (raw10 y.f0) else _) = _
  rw [cps_raw _ _ hx hy]
  rfl
theorem min_img : ∀ (r : List S37) (m : S37), U32 m.f0 → KU r → mins (im1 m) (img r) = im1 (minu m r)
  | [], _, _, _ => rfl
  | x :: r, m, hm, h => by
    have hx := h x List.mem_cons_self
    show mins (if olds (im1 x) (im1 m) < 0 then im1 x else im1 m) (img r) = im1 (minu (if oldu x m < 0 then x else m) r)
    rw [old_img x m hx hm]
    by_cases q : oldu x m < 0
    · rw [if_pos q, if_pos q]
      exact min_img r x hx (fun y hy => h y (List.mem_cons_of_mem _ hy))
    · rw [if_neg q, if_neg q]
      exact min_img r m hm (fun y hy => h y (List.mem_cons_of_mem _ hy))
theorem cut_img : ∀ (n : Nat) (es : List S37), KU es → cuts n (img es) = img (cutu n es)
  | 0, es, _ => rfl
  | _ + 1, [], _ => rfl
  | n + 1, e0 :: er, h => by
    have hm := min_img er e0 (h e0 List.mem_cons_self) (fun y hy => h y (List.mem_cons_of_mem _ hy))
    have hmem := minu_mem e0 er
    show cuts n (fgts (img (e0 :: er)) (mins (im1 e0) (img er)).f0) = img (cutu n (fgtu (e0 :: er) (minu e0 er).f0))
    rw [hm]
    show cuts n (fgts (img (e0 :: er)) (raw10 (minu e0 er).f0)) = _
    rw [fgt_img _ _ (h _ hmem) h]
    exact cut_img n _ (h.sub (fgtu_sub _ _))
theorem setAt_img (es : List S37) (k m : Int) (hk : U32 k) (h : KU es) : setAts (img es) (raw10 k) m = img (setAtu es k m) := by
  unfold setAts setAtu
  rw [low_img k hk es h]
  unfold img
  rw [List.map_append, List.map_cons, List.map_take, List.map_drop]
  rfl
theorem putIn_img (es : List S37) (k m : Int) (hk : U32 k) (h : KU es) : putIns (img es) (raw10 k) m = img (putInu es k m) := by
  unfold putIns putInu
  rw [low_img k hk es h]
  unfold img
  rw [List.map_append, List.map_cons, List.map_take, List.map_drop]
  rfl
theorem acc_img (es : List S37) (k m room : Int) (hk : U32 k) (h : KU es) : accs (img es) (raw10 k) m room = img (accu es k m room) := by
  unfold accs accu
  rw [has_img es k hk h, img_len, setAt_img es k m hk h, cut_img _ es h, putIn_img _ k m hk (h.sub (cutu_sub _ es))]
  split <;> rfl
theorem tell_img (es : List S37) (k : Int) (hk : U32 k) (h : KU es) (hh : hasu es k = true) : tells (img es) (raw10 k) = img (tellu es k) := by
  unfold tells tellu
  rw [low_img k hk es h, rd_img es _ (hasu_lt es k hh)]
  unfold img
  rw [List.map_append, List.map_cons, List.map_take, List.map_drop]
  rfl
theorem ask_img (es : List S37) (k m room span : Int) (hk : U32 k) (h : KU es) : askLs (img es) (raw10 k) m room span = img (askLu es k m room span) := by
  unfold askLs askLu
  rw [ans_img es k m span hk h, acc_img es k m room hk h]
  by_cases q : ansu es k m span = 1
  · rw [if_pos q, if_pos q]
  · rw [if_neg q, if_neg q]
    by_cases q2 : ansu es k m span = 2
    · rw [if_pos q2, if_pos q2]
      exact tell_img es k hk h (ansu_two es k m span q)
    · rw [if_neg q2, if_neg q2]
theorem KU.ask {es : List S37} {key m room span : Int} (h : KU es) (hk : U32 key) : KU (askLu es key m room span) := by
  intro x hx
  unfold askLu at hx
  split at hx
  · unfold accu at hx
    split at hx
    · rcases memu_setAt hx with rfl | hx
      · exact hk
      · exact h x hx
    · rcases memu_putIn hx with rfl | hx
      · exact hk
      · exact h x ((cutu_sub _ es).subset hx)
  · rename_i q
    split at hx
    · have hh := ansu_two es key m span q
      have hl := hasu_lt es key hh
      unfold tellu at hx
      rcases List.mem_append.1 hx with hx | hx
      · exact h x (List.mem_of_mem_take hx)
      · rcases List.mem_cons.1 hx with rfl | hx
        · have h5 := h (rd_T37 es (lowu es key)) (by rw [rdu_get es _ hl]; exact List.getElem_mem _)
          exact h5
        · exact h x (List.mem_of_mem_drop hx)
    · exact h x hx
/-- What holds of the numbers' table holds of the texts'. -/
theorem inv_img (es : List S37) (room : Int) (h : Invu es room) (hk : KU es) : Invs (img es) room := by
  refine ⟨?_, fun x hx => ?_, by rw [img_len]; exact h.len⟩
  · unfold Rises img
    rw [List.pairwise_map]
    refine List.Pairwise.imp_of_mem (fun {a b} ha hb hab => ?_) h.rise
    show lts (raw10 a.f0) (raw10 b.f0) = true
    rw [lts_raw _ _ (hk a ha) (hk b hb)]
    exact hab
  · obtain ⟨y, hy, rfl⟩ := List.mem_map.1 hx
    exact h.ats y hy
end Go.Proofs.Ytbifanoiailjoaa.MRatePlays
