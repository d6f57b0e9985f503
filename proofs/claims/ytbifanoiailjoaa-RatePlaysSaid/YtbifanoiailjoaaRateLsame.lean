/- The two are alike. -/
import Derived.Test.YtbifanoiailjoaaRateLsameA
import Derived.Test.YtbifanoiailjoaaRateActBox
import Derived.Deep.DeepCutAuto
namespace Go.Proofs.Ytbifanoiailjoaa.MRatePlays
open Go.RowKit Go.Proofs.YtbifanoiailjoaaW.PrintWords Go.Proofs.YtbifanoiailjoaaW.PrintLast Go.Proofs.YtbifanoiailjoaaW.PrintMore Go.Proofs.Ytbifanoiailjoaa.Base
set_option linter.unusedVariables false
set_option linter.unusedSimpArgs false

def R3 (g g4 : Nat) (A7 A8 : Option Addr) (c7 c8 : Nat) (es : List S37) (room span : Int) : Nat → Value
  | 0 => .slice A8 es.length c8
  | 1 => .int .i64 es.length
  | 2 => .slice A7 es.length c7
  | 3 => .int .i64 es.length
  | 4 => .bool false
  | 5 => .bool false
  | 6 => .pointer (some ⟨g, 0, none⟩)
  | 7 => .int .i64 es.length
  | 8 => .slice A7 es.length c7
  | 9 => .int .i64 es.length
  | 10 => .bool false
  | 11 => .bool false
  | 12 => .bool false
  | 13 => .pointer (some ⟨g, 0, none⟩)
  | 14 => .int .i64 room
  | 15 => .pointer (some ⟨g4, 1, none⟩)
  | 16 => .int .i64 room
  | 17 => .bool false
  | 18 => .bool false
  | 19 => .bool false
  | 20 => .pointer (some ⟨g, 0, none⟩)
  | 21 => .int .i64 span
  | 22 => .pointer (some ⟨g4, 2, none⟩)
  | 23 => .int .i64 span
  | 24 => .bool false
  | _ => .bool false
def R8 (gx c7 j : Nat) (ad : Addr) (es : List S37) (x : S37) : Nat → Value
  | 0 => .pointer (some ⟨gx, 0, none⟩)
  | 1 => .int .u32 x.f0
  | 2 => .slice (some ad) es.length c7
  | 3 => .int .i64 j
  | 4 => .pointer (some (ad.add (j * 3)))
  | 5 => .pointer (some (ad.add (j * 3)))
  | 6 => .int .u32 x.f0
  | 7 => .bool false
  | 8 => .bool false
  | 9 => .pointer (some ⟨gx, 1, none⟩)
  | 10 => .int .i64 x.f1
  | 11 => .slice (some ad) es.length c7
  | 12 => .int .i64 j
  | 13 => .pointer (some (ad.add (j * 3)))
  | 14 => .pointer (some ⟨(ad.add (j * 3)).block, (ad.add (j * 3)).off + 1, none⟩)
  | 15 => .int .i64 x.f1
  | 16 => .bool false
  | 17 => .bool false
  | 18 => .bool false
  | 19 => .pointer (some ⟨gx, 2, none⟩)
  | 20 => .bool x.f2
  | 21 => .slice (some ad) es.length c7
  | 22 => .int .i64 j
  | 23 => .pointer (some (ad.add (j * 3)))
  | 24 => .pointer (some ⟨(ad.add (j * 3)).block, (ad.add (j * 3)).off + 2, none⟩)
  | 25 => .bool x.f2
  | 26 => .bool false
  | _ => .bool false
def R14a  : Nat → Value
  | 0 => .bool false
  | 1 => .int .i64 (-1)
  | 2 => .bool false
  | 3 => .bool false
  | 4 => .bool false
  | 5 => .bool false
  | 6 => .bool false
  | 7 => undef
  | 8 => undef
  | 9 => undef
  | 10 => undef
  | 11 => undef
  | 12 => undef
  | 13 => undef
  | 14 => undef
  | 15 => undef
  | 16 => undef
  | 17 => undef
  | 18 => undef
  | 19 => undef
  | 20 => undef
  | 21 => undef
  | 22 => undef
  | 23 => undef
  | 24 => undef
  | 25 => undef
  | 26 => undef
  | 27 => .bool false
  | _ => .bool false
def R14b (gx g4 c i : Nat) (ad : Addr) (l : List S94) (x : S37) : Nat → Value
  | 0 => .bool true
  | 1 => .int .i64 i
  | 2 => .bool true
  | 3 => .bool false
  | 4 => .bool false
  | 5 => .bool true
  | 6 => .bool true
  | 7 => .pointer (some ⟨gx, 0, none⟩)
  | 8 => .int .u32 x.f0
  | 9 => .pointer (some ⟨g4, 0, none⟩)
  | 10 => .slice (some ad) l.length c
  | 11 => .int .i64 i
  | 12 => .pointer (some (ad.add (i * 3)))
  | 13 => .pointer (some (ad.add (i * 3)))
  | 14 => .int .u32 x.f0
  | 15 => .bool false
  | 16 => .bool false
  | 17 => .pointer (some ⟨gx, 1, none⟩)
  | 18 => .int .i64 x.f1
  | 19 => .pointer (some ⟨g4, 0, none⟩)
  | 20 => .slice (some ad) l.length c
  | 21 => .int .i64 i
  | 22 => .pointer (some (ad.add (i * 3)))
  | 23 => .pointer (some ⟨(ad.add (i * 3)).block, (ad.add (i * 3)).off + 1, none⟩)
  | 24 => .int .i64 x.f1
  | 25 => .bool false
  | 26 => .bool false
  | 27 => .bool false
  | _ => .bool false
def R18a  : Nat → Value
  | 0 => .bool false
  | 1 => .int .i64 (-1)
  | 2 => .bool false
  | 3 => .bool true
  | 4 => .bool true
  | 5 => .bool false
  | 6 => .bool true
  | 7 => .bool true
  | 8 => .agg #[.int .u32 0, .int .i64 0, .bool false]
  | 9 => .agg #[.int .u32 0, .int .i64 0, .bool false]
  | 10 => .bool true
  | 11 => .bool true
  | 12 => .bool true
  | 13 => undef
  | 14 => undef
  | 15 => undef
  | 16 => undef
  | 17 => undef
  | 18 => undef
  | 19 => undef
  | 20 => undef
  | 21 => undef
  | 22 => undef
  | 23 => undef
  | 24 => undef
  | 25 => undef
  | 26 => undef
  | 27 => undef
  | 28 => undef
  | 29 => undef
  | 30 => undef
  | 31 => undef
  | 32 => undef
  | 33 => undef
  | 34 => undef
  | 35 => undef
  | 36 => undef
  | 37 => undef
  | 38 => undef
  | 39 => undef
  | 40 => undef
  | 41 => undef
  | 42 => .bool true
  | 43 => .bool true
  | _ => .bool true
def R18b (gx g4 c i : Nat) (ad : Addr) (l : List S94) (x : S37) : Nat → Value
  | 0 => .bool true
  | 1 => .int .i64 i
  | 2 => .bool true
  | 3 => .bool true
  | 4 => .bool true
  | 5 => .bool true
  | 6 => .bool false
  | 7 => .bool false
  | 8 => undef
  | 9 => undef
  | 10 => undef
  | 11 => .bool false
  | 12 => .bool false
  | 13 => .bool true
  | 14 => .bool true
  | 15 => .pointer (some ⟨gx, 0, none⟩)
  | 16 => .int .u32 x.f0
  | 17 => .int .u32 x.f0
  | 18 => .bool true
  | 19 => .bool true
  | 20 => .bool true
  | 21 => .pointer (some ⟨gx, 1, none⟩)
  | 22 => .int .i64 x.f1
  | 23 => .pointer (some ⟨g4, 0, none⟩)
  | 24 => .slice (some ad) l.length c
  | 25 => .int .i64 i
  | 26 => .pointer (some (ad.add (i * 3)))
  | 27 => .pointer (some ⟨(ad.add (i * 3)).block, (ad.add (i * 3)).off + 1, none⟩)
  | 28 => .int .i64 x.f1
  | 29 => .bool true
  | 30 => .bool true
  | 31 => .bool true
  | 32 => .pointer (some ⟨gx, 2, none⟩)
  | 33 => .bool x.f2
  | 34 => .pointer (some ⟨g4, 0, none⟩)
  | 35 => .slice (some ad) l.length c
  | 36 => .int .i64 i
  | 37 => .pointer (some (ad.add (i * 3)))
  | 38 => .pointer (some ⟨(ad.add (i * 3)).block, (ad.add (i * 3)).off + 2, none⟩)
  | 39 => .bool x.f2
  | 40 => .bool true
  | 41 => .bool true
  | 42 => .bool true
  | 43 => .bool true
  | _ => .bool true
set_option maxHeartbeats 8000000 in
set_option maxRecDepth 100000 in
theorem lsame_c (w : World) (g b : Nat) (es : List S37) (room span key : Int) (P : Nat → Prop) (A : Option Addr) (c : Nat) (l : List S94) (H : Tabu w g b es room span) (hI : Invu es room) (hr2 : room ≤ 1024) (hV : Kd.V k94 94 w 0 P (.slice A l.length c) l) (hRef : Ref es l) :
    Calls Try.prog 33 #[.pointer (some ⟨g, 0, none⟩), .agg #[.slice A l.length c, .int .i64 room, .int .i64 span], .int .u32 key] w fun e w' => e = .returned (.bool true) ∧ Below w.heap.size w w' := by
  have hm : es.length ≤ 1000000 := by have := hI.len; omega
  have HM := Aside0.mk hm
  have hml : l.length ≤ 1000000 := by have := hRef.len; omega
  have HSORT := Aside0.mk (fun W (h : Kd.V k94 94 W 0 P (.slice A l.length c) l) => sortr_c W A c es l room span (Kd.V_reads' h).2.2 (Kd.V_reads' h).2.1 hI hr2 hRef)
  have HENT := Aside0.mk (fun W (hW : Tabu W g b es room span) => entriesu_c W g b es room span hW hm)
  have HLEN := Aside0.mk (fun W (hW : Tabu W g b es room span) => lenu_c W g b es room span hW)
  have HROOM := Aside0.mk (fun W (hW : Tabu W g b es room span) => roomu_c W g b es room span hW)
  have HSPAN := Aside0.mk (fun W (hW : Tabu W g b es room span) => spanu_c W g b es room span hW)
  obtain ⟨xo, hso, ato, hO, hev, HOC⟩ := old_any es l room span hI hr2 hRef
  obtain ⟨xe, hse, te, hE, hfi, HEC⟩ := ent_any es l room span key hI hr2 hRef
  have HOLD := Aside0.mk (fun W (hW : Tabu W g b es room span) => hO W g b hW)
  have HENY := Aside0.mk (fun W (hW : Tabu W g b es room span) => hE W g b hW)
  have HROLD := Aside0.mk (fun W (h : Kd.V k94 94 W 0 P (.slice A l.length c) l) => oldr_c W A c l room span ato (Kd.V_reads' h).2.2 (Kd.V_reads' h).2.1 hev)
  have HFIND := Aside0.mk (fun W (h : Kd.V k94 94 W 0 P (.slice A l.length c) l) => findr_c W A c l room span key (Kd.V_reads' h).2.2 (Kd.V_reads' h).2.1 hml)
  rw [hfi] at HFIND
  replace HOC := Aside0.mk HOC
  replace HEC := Aside0.mk HEC
  have HT := Aside0.mk H
  have HV := Aside0.mk hV
  have HGB := Aside0.mk H.lt
  clear H hI hr2 hV hRef hm hml hO hE hev hfi
  go_enter Try.func33, Try.ntmps33
  go_upto_region 1 with (first | ((with_reducible refine gate_dst (N := 4) rfl ?_); refine box_event ?hg (N := 4) ?hd (cs := #[.slice A l.length c, .int .i64 room, .int .i64 span]) (t := 65) ?hr ?_; (case hd => rfl); (case hg => rfl); (case hr => go_simp; try rfl); intro g4 hg_ w1 hx_ hb_; have HB := Aside0.mk hb_; have R4 := Aside0.mk hx_; clear hg_ hx_ hb_; skip) | fail)
  have HT := Aside0.mk (HT.out.below HB.out)
  have HV := Aside0.mk (Kd.V_below HV.out HB.out)
  have z0 : w1.cell? ⟨g4, 0, none⟩ = some (.slice A l.length c) := (blk_cell R4.out 0).trans rfl
  have z1 : w1.cell? ⟨g4, 1, none⟩ = some (.int .i64 room) := (blk_cell R4.out 1).trans rfl
  have z2 : w1.cell? ⟨g4, 2, none⟩ = some (.int .i64 span) := (blk_cell R4.out 2).trans rfl
  go_upto_region 2 with (first | (go_at_call 52; refine (HSORT.out _ HV.out).mono ?_; rintro e_ w2 ⟨A7, c7, rfl, hs_, hb_⟩; have HS := Aside0.mk hs_; have R4 := Aside0.mk (blk_below R4.out hb_); have HT := Aside0.mk (HT.out.below hb_); have HV := Aside0.mk (Kd.V_below HV.out hb_); have HB := Aside0.mk (below_step HB.out hb_); clear hs_ hb_) | fail)
  clear z0 z1 z2
  go_upto_region 3 with (first | (go_at_call 12; refine (HENT.out _ HT.out).mono ?_; rintro e_ w3 ⟨v8, n1, rfl, hs_, hn_, hb_⟩; have HSL := Aside0.mk hs_; have HS0 := HS; have HNB := Aside0.mk hn_; have HS := Aside0.mk (Kd.V_below HS.out hb_); have HAT2 := Aside0.mk (And.intro HT.out (And.intro HV.out (And.intro HS0.out R4.out))); have R4 := Aside0.mk (blk_below R4.out hb_); have HT := Aside0.mk (HT.out.below hb_); have HV := Aside0.mk (Kd.V_below HV.out hb_); have HB3 := Aside0.mk (below_step (Below.refl w2.heap.size w2) hb_); have HB := Aside0.mk HB.out; clear hs_ hn_ hb_; obtain ⟨A8, c8, rfl⟩ := slu_form HSL.out) | fail)
  have HN1 : Aside0 (∀ m, m < es.length → A8 = some ⟨n1, 0, none⟩ ∧ w2.heap.size ≤ n1) := ⟨fun m hm => by
    obtain ⟨h1, h2, _⟩ := slu_at3 HT.out HSL.out m hm
    exact ⟨h1, HNB.out.elim (fun q => absurd q h2) id⟩⟩
  have HC : Aside0 (∀ m (hm : m < es.length), 0 ≤ m → C3 w3 n1 m es[m]) := ⟨fun m hm _ => (slu_at3 HT.out HSL.out m hm).2.2⟩
  have HZ : Aside0 (w3.cell? ⟨g4, 1, none⟩ = some (.int .i64 room) ∧ w3.cell? ⟨g4, 2, none⟩ = some (.int .i64 span)) := ⟨⟨(blk_cell R4.out 1).trans rfl, (blk_cell R4.out 2).trans rfl⟩⟩
  have HTD := Aside0.mk (HT.out.below (below_drew (Below.refl w3.heap.size w3)))
  have HGG := Aside0.mk (below_drew (Below.refl w3.heap.size w3))
  clear HSL HNB
  refine region_below (T := ?TR3) (n := 0) [some 21, some 22, some 23, some 24, some 25, some 26, some 27, some 28, some 29, some 30, some 31, some 32, some 33, some 34, some 35, some 36, some 37, some 38, some 39, some 40, some 41, some 42, some 43, some 44, some 45, some 46] ?hTR3 (fun i_ v_ _ => v_ = R3 g g4 A7 A8 c7 c8 es room span i_) (by kernel_rfl) (by kernel_rfl) (fun i_ v_ w_ w1_ _ h_ _ => h_) [0, 1, 2, 3, 4, 5, 6, 7, 8, 9, 10, 11, 12, 13, 14, 15, 16, 17, 18, 19, 20, 21, 22, 23, 24, 25] rfl (.cons (some 21) rfl rfl (fun X wx hG hX K hK => ?_) (.cons (some 22) rfl rfl (fun X wx hG hX K hK => ?_) (.cons (some 23) rfl rfl (fun X wx hG hX K hK => ?_) (.cons (some 24) rfl rfl (fun X wx hG hX K hK => ?_) (.cons (some 25) rfl rfl (fun X wx hG hX K hK => ?_) (.cons (some 26) rfl rfl (fun X wx hG hX K hK => ?_) (.cons (some 27) rfl rfl (fun X wx hG hX K hK => ?_) (.cons (some 28) rfl rfl (fun X wx hG hX K hK => ?_) (.cons (some 29) rfl rfl (fun X wx hG hX K hK => ?_) (.cons (some 30) rfl rfl (fun X wx hG hX K hK => ?_) (.cons (some 31) rfl rfl (fun X wx hG hX K hK => ?_) (.cons (some 32) rfl rfl (fun X wx hG hX K hK => ?_) (.cons (some 33) rfl rfl (fun X wx hG hX K hK => ?_) (.cons (some 34) rfl rfl (fun X wx hG hX K hK => ?_) (.cons (some 35) rfl rfl (fun X wx hG hX K hK => ?_) (.cons (some 36) rfl rfl (fun X wx hG hX K hK => ?_) (.cons (some 37) rfl rfl (fun X wx hG hX K hK => ?_) (.cons (some 38) rfl rfl (fun X wx hG hX K hK => ?_) (.cons (some 39) rfl rfl (fun X wx hG hX K hK => ?_) (.cons (some 40) rfl rfl (fun X wx hG hX K hK => ?_) (.cons (some 41) rfl rfl (fun X wx hG hX K hK => ?_) (.cons (some 42) rfl rfl (fun X wx hG hX K hK => ?_) (.cons (some 43) rfl rfl (fun X wx hG hX K hK => ?_) (.cons (some 44) rfl rfl (fun X wx hG hX K hK => ?_) (.cons (some 45) rfl rfl (fun X wx hG hX K hK => ?_) (.cons (some 46) rfl rfl (fun X wx hG hX K hK => ?_) .nil)))))))))))))))))))))))))) (by kernel_rfl) #[true, true, true, true, true, true, true, true, true, true, true, true, true, true, true, true, true, true, true, true, true, true, true, true, true, true] (by kernel_rfl) ?_
  case hTR3 =>
    intro X
    simp only [fill, Act.put, List.setIfInBounds_toArray, List.set_cons_zero, List.set_cons_succ, Nat.zero_add, Nat.reduceAdd]
    rfl
  · refine val_ (w1 := wx) (v := .slice A8 es.length c8) (by rfl) rfl ?_ (hK.out _ _ _ rfl (Below.refl _ _) rfl)
    go_simp
  · have e0 : X 0 = .slice A8 es.length c8 := hX 1 0 (by kernel_rfl)
    refine val_ (w1 := wx) (v := .int .i64 es.length) (by rfl) rfl ?_ (hK.out _ _ _ rfl (Below.refl _ _) rfl)
    go_simp
  · refine val_ (w1 := wx) (v := .slice A7 es.length c7) (by rfl) rfl ?_ (hK.out _ _ _ rfl (Below.refl _ _) rfl)
    go_simp
  · have e2 : X 2 = .slice A7 es.length c7 := hX 1 2 (by kernel_rfl)
    refine val_ (w1 := wx) (v := .int .i64 es.length) (by rfl) rfl ?_ (hK.out _ _ _ rfl (Below.refl _ _) rfl)
    go_simp
  · have e1 : X 1 = .int .i64 es.length := hX 1 1 (by kernel_rfl)
    have e3 : X 3 = .int .i64 es.length := hX 1 3 (by kernel_rfl)
    refine val_ (w1 := wx) (v := .bool false) (by rfl) rfl ?_ (hK.out _ _ _ rfl (Below.refl _ _) rfl)
    go_simp
  · have e4 : X 4 = .bool false := hX 1 4 (by kernel_rfl)
    refine val_ (w1 := wx) (v := .bool false) (by rfl) rfl ?_ (hK.out _ _ _ rfl (Below.refl _ _) rfl)
    go_simp
  · have e5 : X 5 = .bool false := hX 1 5 (by kernel_rfl)
    refine val_ (w1 := wx) (v := .pointer (some ⟨g, 0, none⟩)) (wanted_of rfl rfl (congrArg some e5)) rfl ?_ (hK.out _ _ _ rfl (Below.refl _ _) rfl)
    go_simp
  · have e5 : X 5 = .bool false := hX 1 5 (by kernel_rfl)
    have e6 : X 6 = .pointer (some ⟨g, 0, none⟩) := hX 1 6 (by kernel_rfl)
    refine goes_ Try.func13 (by kernel_rfl) rfl #[X 6] (wanted_of rfl rfl (congrArg some e5)) rfl rfl (by simp only [List.map_toArray, List.map_cons, List.map_nil]; rfl) ?_
    refine calls_args (args1 e6) ?_
    refine (HLEN.out wx (HTD.out.below hG)).mono ?_
    rintro e_ w' ⟨rfl, hb_⟩
    exact ⟨_, rfl, hK.out _ _ _ rfl hb_ rfl⟩
  · have e5 : X 5 = .bool false := hX 1 5 (by kernel_rfl)
    refine val_ (w1 := wx) (v := .slice A7 es.length c7) (wanted_of rfl rfl (congrArg some e5)) rfl ?_ (hK.out _ _ _ rfl (Below.refl _ _) rfl)
    go_simp
  · have e5 : X 5 = .bool false := hX 1 5 (by kernel_rfl)
    have e8 : X 8 = .slice A7 es.length c7 := hX 1 8 (by kernel_rfl)
    refine val_ (w1 := wx) (v := .int .i64 es.length) (wanted_of rfl rfl (congrArg some e5)) rfl ?_ (hK.out _ _ _ rfl (Below.refl _ _) rfl)
    go_simp
  · have e5 : X 5 = .bool false := hX 1 5 (by kernel_rfl)
    have e7 : X 7 = .int .i64 es.length := hX 1 7 (by kernel_rfl)
    have e9 : X 9 = .int .i64 es.length := hX 1 9 (by kernel_rfl)
    refine val_ (w1 := wx) (v := .bool false) (wanted_of rfl rfl (congrArg some e5)) rfl ?_ (hK.out _ _ _ rfl (Below.refl _ _) rfl)
    go_simp
  · have e5 : X 5 = .bool false := hX 1 5 (by kernel_rfl)
    have e10 : X 10 = .bool false := hX 1 10 (by kernel_rfl)
    refine val_ (w1 := wx) (v := .bool false) (by rfl) rfl ?_ (hK.out _ _ _ rfl (Below.refl _ _) rfl)
    go_simp
  · have e11 : X 11 = .bool false := hX 1 11 (by kernel_rfl)
    refine val_ (w1 := wx) (v := .bool false) (by rfl) rfl ?_ (hK.out _ _ _ rfl (Below.refl _ _) rfl)
    go_simp
  · have e12 : X 12 = .bool false := hX 1 12 (by kernel_rfl)
    refine val_ (w1 := wx) (v := .pointer (some ⟨g, 0, none⟩)) (wanted_of rfl rfl (congrArg some e12)) rfl ?_ (hK.out _ _ _ rfl (Below.refl _ _) rfl)
    go_simp
  · have e12 : X 12 = .bool false := hX 1 12 (by kernel_rfl)
    have e13 : X 13 = .pointer (some ⟨g, 0, none⟩) := hX 1 13 (by kernel_rfl)
    refine goes_ Try.func53 (by kernel_rfl) rfl #[X 13] (wanted_of rfl rfl (congrArg some e12)) rfl rfl (by simp only [List.map_toArray, List.map_cons, List.map_nil]; rfl) ?_
    refine calls_args (args1 e13) ?_
    refine (HROOM.out wx (HTD.out.below hG)).mono ?_
    rintro e_ w' ⟨rfl, hb_⟩
    exact ⟨_, rfl, hK.out _ _ _ rfl hb_ rfl⟩
  · have e12 : X 12 = .bool false := hX 1 12 (by kernel_rfl)
    refine val_ (w1 := wx) (v := .pointer (some ⟨g4, 1, none⟩)) (wanted_of rfl rfl (congrArg some e12)) rfl ?_ (hK.out _ _ _ rfl (Below.refl _ _) rfl)
    go_simp
  · have e12 : X 12 = .bool false := hX 1 12 (by kernel_rfl)
    have e15 : X 15 = .pointer (some ⟨g4, 1, none⟩) := hX 1 15 (by kernel_rfl)
    have z0_ : wx.cell? ⟨g4, 1, none⟩ = some (.int .i64 room) := cell_later hG (show w3.drew.cell? ⟨g4, 1, none⟩ = _ from HZ.out.1)
    refine val_ (w1 := wx) (v := .int .i64 room) (wanted_of rfl rfl (congrArg some e12)) rfl ?_ (hK.out _ _ _ rfl (Below.refl _ _) rfl)
    go_simp
  · have e12 : X 12 = .bool false := hX 1 12 (by kernel_rfl)
    have e14 : X 14 = .int .i64 room := hX 1 14 (by kernel_rfl)
    have e16 : X 16 = .int .i64 room := hX 1 16 (by kernel_rfl)
    refine val_ (w1 := wx) (v := .bool false) (wanted_of rfl rfl (congrArg some e12)) rfl ?_ (hK.out _ _ _ rfl (Below.refl _ _) rfl)
    go_simp
  · have e12 : X 12 = .bool false := hX 1 12 (by kernel_rfl)
    have e17 : X 17 = .bool false := hX 1 17 (by kernel_rfl)
    refine val_ (w1 := wx) (v := .bool false) (by rfl) rfl ?_ (hK.out _ _ _ rfl (Below.refl _ _) rfl)
    go_simp
  · have e18 : X 18 = .bool false := hX 1 18 (by kernel_rfl)
    refine val_ (w1 := wx) (v := .bool false) (by rfl) rfl ?_ (hK.out _ _ _ rfl (Below.refl _ _) rfl)
    go_simp
  · have e19 : X 19 = .bool false := hX 1 19 (by kernel_rfl)
    refine val_ (w1 := wx) (v := .pointer (some ⟨g, 0, none⟩)) (wanted_of rfl rfl (congrArg some e19)) rfl ?_ (hK.out _ _ _ rfl (Below.refl _ _) rfl)
    go_simp
  · have e19 : X 19 = .bool false := hX 1 19 (by kernel_rfl)
    have e20 : X 20 = .pointer (some ⟨g, 0, none⟩) := hX 1 20 (by kernel_rfl)
    refine goes_ Try.func54 (by kernel_rfl) rfl #[X 20] (wanted_of rfl rfl (congrArg some e19)) rfl rfl (by simp only [List.map_toArray, List.map_cons, List.map_nil]; rfl) ?_
    refine calls_args (args1 e20) ?_
    refine (HSPAN.out wx (HTD.out.below hG)).mono ?_
    rintro e_ w' ⟨rfl, hb_⟩
    exact ⟨_, rfl, hK.out _ _ _ rfl hb_ rfl⟩
  · have e19 : X 19 = .bool false := hX 1 19 (by kernel_rfl)
    refine val_ (w1 := wx) (v := .pointer (some ⟨g4, 2, none⟩)) (wanted_of rfl rfl (congrArg some e19)) rfl ?_ (hK.out _ _ _ rfl (Below.refl _ _) rfl)
    go_simp
  · have e19 : X 19 = .bool false := hX 1 19 (by kernel_rfl)
    have e22 : X 22 = .pointer (some ⟨g4, 2, none⟩) := hX 1 22 (by kernel_rfl)
    have z0_ : wx.cell? ⟨g4, 2, none⟩ = some (.int .i64 span) := cell_later hG (show w3.drew.cell? ⟨g4, 2, none⟩ = _ from HZ.out.2)
    refine val_ (w1 := wx) (v := .int .i64 span) (wanted_of rfl rfl (congrArg some e19)) rfl ?_ (hK.out _ _ _ rfl (Below.refl _ _) rfl)
    go_simp
  · have e19 : X 19 = .bool false := hX 1 19 (by kernel_rfl)
    have e21 : X 21 = .int .i64 span := hX 1 21 (by kernel_rfl)
    have e23 : X 23 = .int .i64 span := hX 1 23 (by kernel_rfl)
    refine val_ (w1 := wx) (v := .bool false) (wanted_of rfl rfl (congrArg some e19)) rfl ?_ (hK.out _ _ _ rfl (Below.refl _ _) rfl)
    go_simp
  · have e19 : X 19 = .bool false := hX 1 19 (by kernel_rfl)
    have e24 : X 24 = .bool false := hX 1 24 (by kernel_rfl)
    refine val_ (w1 := wx) (v := .bool false) (by rfl) rfl ?_ (hK.out _ _ _ rfl (Below.refl _ _) rfl)
    go_simp
  intro X w4 hG hX
  refine tail_done (by kernel_rfl) ?_
  have e25 : X 25 = .bool false := hX 25 (by decide)
  rw [e25]
  have HT := Aside0.mk (HT.out.below hG)
  have HV := Aside0.mk (Kd.V_below HV.out hG)
  have HS := Aside0.mk (Kd.V_below HS.out hG)
  have R4 := Aside0.mk (blk_below R4.out hG)
  have HC : Aside0 (∀ m (hm : m < es.length), 0 ≤ m → C3 w4 n1 m es[m]) := ⟨fun m hm h0 => (HC.out m hm h0).below hG⟩
  have HB3 := Aside0.mk (below_step HB3.out hG)
  clear hX e25 hG HZ HTD HGG
  go_wp2
  go_loopg [49] es.length (fun kx s49 wi => ∃ j : Nat, s49 = .int .i64 j ∧ j ≤ es.length ∧ es.length - j ≤ kx ∧ Aside0 (∀ m (hm : m < es.length), j ≤ m → C3 wi n1 m es[m]) ∧ Aside0 (Below w2.heap.size w2 wi))
  case atStart => exact ⟨0, rfl, Nat.zero_le _, Nat.sub_le _ _, HC, HB3⟩
  case round =>
    clear HC HB3 HT HV HS R4
    obtain ⟨j, rfl, hj, hkj, HC, HB3⟩ := hrel
    have HT := Aside0.mk (HAT2.out.1.below HB3.out)
    have HV := Aside0.mk (Kd.V_below HAT2.out.2.1 HB3.out)
    have HS := Aside0.mk (Kd.V_below HAT2.out.2.2.1 HB3.out)
    have R4 := Aside0.mk (blk_below HAT2.out.2.2.2 HB3.out)
    by_cases hlj : j < es.length
    · obtain ⟨eA8, hn1⟩ := HN1.out j hlj
      have HNN := Aside0.mk hn1
      subst eA8
      obtain ⟨x, hx⟩ : ∃ x, es[j] = x := ⟨_, rfl⟩
      obtain ⟨z0, z1, z2, _⟩ := HC.out j hlj (Nat.le_refl _)
      obtain ⟨ad, eA7, y0, y1, y2⟩ := v94_at HS.out j hlj
      have hx94 : rd_T94 (es.map to94) (j : Int) = to94 x := by
        rw [rd94_get _ j (by rw [List.length_map]; exact hlj), List.getElem_map, hx]
      rw [hx94] at y0 y1 y2
      rw [hx] at z0 z1 z2
      subst eA7
      have HY := Aside0.mk (And.intro y0 (And.intro y1 y2))
      have hltj : (j : Int) < (es.length : Int) := Int.ofNat_lt.2 hlj
      have HB0 := Aside0.mk (Below.refl wr.heap.size wr)
      clear y0 y1 y2 hx94 hx hn1
      go_upto_region 8 with (first | ((with_reducible refine gate_dst (N := 10) rfl ?_); refine box_event ?hg10 (N := 10) ?hd10 (cs := #[.int .u32 0, .int .i64 0, .bool false]) (t := 37) ?hr10 ?_; (case hd10 => rfl); (case hg10 => rfl); (case hr10 => go_simp; try rfl); intro gx hg_ w6 hx_ hb_; have Gx := Aside0.mk hg_; have Hx := Aside0.mk hb_; have Bx := Aside0.mk hx_; clear hg_ hx_ hb_; skip) | ((with_reducible refine gate_store (t := 37) (p := 10) rfl ?_); refine wpList_store_row rfl 37 _ _ rfl gx #[.int .u32 x.f0, .int .i64 x.f1, .bool x.f2] rfl rfl 37 _ Bx.out (by kernel_rfl) (by rfl) (a3_one x) ?_) | fail)
      have X0 := Aside0.mk ((PH.start HB0.out Hx.out Gx.out Bx.out).set #[.int .u32 x.f0, .int .i64 x.f1, .bool x.f2])
      clear Gx Hx Bx HB0 z0 z1 z2
      refine named ?_
      intro W8 hW8
      rw [← hW8] at X0
      have HZ : Aside0 (W8.cell? ⟨gx, 0, none⟩ = some (.int .u32 x.f0) ∧ W8.cell? ⟨gx, 1, none⟩ = some (.int .i64 x.f1) ∧ W8.cell? ⟨gx, 2, none⟩ = some (.bool x.f2) ∧ W8.cell? (ad.add (j * 3)) = some (.int .u32 x.f0) ∧ W8.cell? ⟨(ad.add (j * 3)).block, (ad.add (j * 3)).off + 1, none⟩ = some (.int .i64 x.f1) ∧ W8.cell? ⟨(ad.add (j * 3)).block, (ad.add (j * 3)).off + 2, none⟩ = some (.bool x.f2)) :=
        ⟨(blk_cell X0.out.row 0).trans rfl, (blk_cell X0.out.row 1).trans rfl, (blk_cell X0.out.row 2).trans rfl, (X0.out.bel.cell (World.block_lt_of_cell? wr _ HY.out.1)).trans HY.out.1, (X0.out.bel.cell (World.block_lt_of_cell? wr _ HY.out.2.1)).trans HY.out.2.1, (X0.out.bel.cell (World.block_lt_of_cell? wr _ HY.out.2.2)).trans HY.out.2.2⟩
      have HBX := Aside0.mk X0.out.bel
      clear X0 hW8 HY
      refine region_below (T := ?TR8) (n := 0) [some 54, some 55, some 56, some 57, some 58, some 59, some 60, some 61, some 62, some 63, some 64, some 65, some 66, some 67, some 68, some 69, some 70, some 71, some 72, some 73, some 74, some 75, some 76, some 77, some 78, some 79, some 80, some 81] ?hTR8 (fun i_ v_ _ => v_ = R8 gx c7 j ad es x i_) (by kernel_rfl) (by kernel_rfl) (fun i_ v_ w_ w1_ _ h_ _ => h_) [0, 1, 2, 3, 4, 5, 6, 7, 8, 9, 10, 11, 12, 13, 14, 15, 16, 17, 18, 19, 20, 21, 22, 23, 24, 25, 26, 27] rfl (.cons (some 54) rfl rfl (fun X wx hG hX K hK => ?_) (.cons (some 55) rfl rfl (fun X wx hG hX K hK => ?_) (.cons (some 56) rfl rfl (fun X wx hG hX K hK => ?_) (.cons (some 57) rfl rfl (fun X wx hG hX K hK => ?_) (.cons (some 58) rfl rfl (fun X wx hG hX K hK => ?_) (.cons (some 59) rfl rfl (fun X wx hG hX K hK => ?_) (.cons (some 60) rfl rfl (fun X wx hG hX K hK => ?_) (.cons (some 61) rfl rfl (fun X wx hG hX K hK => ?_) (.cons (some 62) rfl rfl (fun X wx hG hX K hK => ?_) (.cons (some 63) rfl rfl (fun X wx hG hX K hK => ?_) (.cons (some 64) rfl rfl (fun X wx hG hX K hK => ?_) (.cons (some 65) rfl rfl (fun X wx hG hX K hK => ?_) (.cons (some 66) rfl rfl (fun X wx hG hX K hK => ?_) (.cons (some 67) rfl rfl (fun X wx hG hX K hK => ?_) (.cons (some 68) rfl rfl (fun X wx hG hX K hK => ?_) (.cons (some 69) rfl rfl (fun X wx hG hX K hK => ?_) (.cons (some 70) rfl rfl (fun X wx hG hX K hK => ?_) (.cons (some 71) rfl rfl (fun X wx hG hX K hK => ?_) (.cons (some 72) rfl rfl (fun X wx hG hX K hK => ?_) (.cons (some 73) rfl rfl (fun X wx hG hX K hK => ?_) (.cons (some 74) rfl rfl (fun X wx hG hX K hK => ?_) (.cons (some 75) rfl rfl (fun X wx hG hX K hK => ?_) (.cons (some 76) rfl rfl (fun X wx hG hX K hK => ?_) (.cons (some 77) rfl rfl (fun X wx hG hX K hK => ?_) (.cons (some 78) rfl rfl (fun X wx hG hX K hK => ?_) (.cons (some 79) rfl rfl (fun X wx hG hX K hK => ?_) (.cons (some 80) rfl rfl (fun X wx hG hX K hK => ?_) (.cons (some 81) rfl rfl (fun X wx hG hX K hK => ?_) .nil)))))))))))))))))))))))))))) (by kernel_rfl) #[true, true, true, true, true, true, true, true, true, true, true, true, true, true, true, true, true, true, true, true, true, true, true, true, true, true, true, true] (by kernel_rfl) ?_
      case hTR8 =>
        intro X
        simp only [fill, Act.put, List.setIfInBounds_toArray, List.set_cons_zero, List.set_cons_succ, Nat.zero_add, Nat.reduceAdd]
        rfl
      · refine val_ (w1 := wx) (v := .pointer (some ⟨gx, 0, none⟩)) (by rfl) rfl ?_ (hK.out _ _ _ rfl (Below.refl _ _) rfl)
        go_simp
      · have e0 : X 0 = .pointer (some ⟨gx, 0, none⟩) := hX 1 0 (by kernel_rfl)
        have z0_ : wx.cell? ⟨gx, 0, none⟩ = some (.int .u32 x.f0) := cell_later hG (show W8.drew.cell? ⟨gx, 0, none⟩ = _ from HZ.out.1)
        refine val_ (w1 := wx) (v := .int .u32 x.f0) (by rfl) rfl ?_ (hK.out _ _ _ rfl (Below.refl _ _) rfl)
        go_simp
      · refine val_ (w1 := wx) (v := .slice (some ad) es.length c7) (by rfl) rfl ?_ (hK.out _ _ _ rfl (Below.refl _ _) rfl)
        go_simp
      · refine val_ (w1 := wx) (v := .int .i64 j) (by rfl) rfl ?_ (hK.out _ _ _ rfl (Below.refl _ _) rfl)
        go_simp
      · have e2 : X 2 = .slice (some ad) es.length c7 := hX 1 2 (by kernel_rfl)
        have e3 : X 3 = .int .i64 j := hX 1 3 (by kernel_rfl)
        refine val_ (w1 := wx) (v := .pointer (some (ad.add (j * 3)))) (by rfl) rfl ?_ (hK.out _ _ _ rfl (Below.refl _ _) rfl)
        go_simp
      · have e4 : X 4 = .pointer (some (ad.add (j * 3))) := hX 1 4 (by kernel_rfl)
        refine val_ (w1 := wx) (v := .pointer (some (ad.add (j * 3)))) (by rfl) rfl ?_ (hK.out _ _ _ rfl (Below.refl _ _) rfl)
        go_simp
      · have e5 : X 5 = .pointer (some (ad.add (j * 3))) := hX 1 5 (by kernel_rfl)
        have z0_ : wx.cell? (ad.add (j * 3)) = some (.int .u32 x.f0) := cell_later hG (show W8.drew.cell? (ad.add (j * 3)) = _ from HZ.out.2.2.2.1)
        refine val_ (w1 := wx) (v := .int .u32 x.f0) (by rfl) rfl ?_ (hK.out _ _ _ rfl (Below.refl _ _) rfl)
        go_simp
      · have e1 : X 1 = .int .u32 x.f0 := hX 1 1 (by kernel_rfl)
        have e6 : X 6 = .int .u32 x.f0 := hX 1 6 (by kernel_rfl)
        refine val_ (w1 := wx) (v := .bool false) (by rfl) rfl ?_ (hK.out _ _ _ rfl (Below.refl _ _) rfl)
        go_simp
      · have e7 : X 7 = .bool false := hX 1 7 (by kernel_rfl)
        refine val_ (w1 := wx) (v := .bool false) (by rfl) rfl ?_ (hK.out _ _ _ rfl (Below.refl _ _) rfl)
        go_simp
      · have e8 : X 8 = .bool false := hX 1 8 (by kernel_rfl)
        refine val_ (w1 := wx) (v := .pointer (some ⟨gx, 1, none⟩)) (wanted_of rfl rfl (congrArg some e8)) rfl ?_ (hK.out _ _ _ rfl (Below.refl _ _) rfl)
        go_simp
      · have e8 : X 8 = .bool false := hX 1 8 (by kernel_rfl)
        have e9 : X 9 = .pointer (some ⟨gx, 1, none⟩) := hX 1 9 (by kernel_rfl)
        have z0_ : wx.cell? ⟨gx, 1, none⟩ = some (.int .i64 x.f1) := cell_later hG (show W8.drew.cell? ⟨gx, 1, none⟩ = _ from HZ.out.2.1)
        refine val_ (w1 := wx) (v := .int .i64 x.f1) (wanted_of rfl rfl (congrArg some e8)) rfl ?_ (hK.out _ _ _ rfl (Below.refl _ _) rfl)
        go_simp
      · have e8 : X 8 = .bool false := hX 1 8 (by kernel_rfl)
        refine val_ (w1 := wx) (v := .slice (some ad) es.length c7) (wanted_of rfl rfl (congrArg some e8)) rfl ?_ (hK.out _ _ _ rfl (Below.refl _ _) rfl)
        go_simp
      · have e8 : X 8 = .bool false := hX 1 8 (by kernel_rfl)
        refine val_ (w1 := wx) (v := .int .i64 j) (wanted_of rfl rfl (congrArg some e8)) rfl ?_ (hK.out _ _ _ rfl (Below.refl _ _) rfl)
        go_simp
      · have e8 : X 8 = .bool false := hX 1 8 (by kernel_rfl)
        have e11 : X 11 = .slice (some ad) es.length c7 := hX 1 11 (by kernel_rfl)
        have e12 : X 12 = .int .i64 j := hX 1 12 (by kernel_rfl)
        refine val_ (w1 := wx) (v := .pointer (some (ad.add (j * 3)))) (wanted_of rfl rfl (congrArg some e8)) rfl ?_ (hK.out _ _ _ rfl (Below.refl _ _) rfl)
        go_simp
      · have e8 : X 8 = .bool false := hX 1 8 (by kernel_rfl)
        have e13 : X 13 = .pointer (some (ad.add (j * 3))) := hX 1 13 (by kernel_rfl)
        refine val_ (w1 := wx) (v := .pointer (some ⟨(ad.add (j * 3)).block, (ad.add (j * 3)).off + 1, none⟩)) (wanted_of rfl rfl (congrArg some e8)) rfl ?_ (hK.out _ _ _ rfl (Below.refl _ _) rfl)
        go_simp
      · have e8 : X 8 = .bool false := hX 1 8 (by kernel_rfl)
        have e14 : X 14 = .pointer (some ⟨(ad.add (j * 3)).block, (ad.add (j * 3)).off + 1, none⟩) := hX 1 14 (by kernel_rfl)
        have z0_ : wx.cell? ⟨(ad.add (j * 3)).block, (ad.add (j * 3)).off + 1, none⟩ = some (.int .i64 x.f1) := cell_later hG (show W8.drew.cell? ⟨(ad.add (j * 3)).block, (ad.add (j * 3)).off + 1, none⟩ = _ from HZ.out.2.2.2.2.1)
        refine val_ (w1 := wx) (v := .int .i64 x.f1) (wanted_of rfl rfl (congrArg some e8)) rfl ?_ (hK.out _ _ _ rfl (Below.refl _ _) rfl)
        go_simp
      · have e8 : X 8 = .bool false := hX 1 8 (by kernel_rfl)
        have e10 : X 10 = .int .i64 x.f1 := hX 1 10 (by kernel_rfl)
        have e15 : X 15 = .int .i64 x.f1 := hX 1 15 (by kernel_rfl)
        refine val_ (w1 := wx) (v := .bool false) (wanted_of rfl rfl (congrArg some e8)) rfl ?_ (hK.out _ _ _ rfl (Below.refl _ _) rfl)
        go_simp
      · have e8 : X 8 = .bool false := hX 1 8 (by kernel_rfl)
        have e16 : X 16 = .bool false := hX 1 16 (by kernel_rfl)
        refine val_ (w1 := wx) (v := .bool false) (by rfl) rfl ?_ (hK.out _ _ _ rfl (Below.refl _ _) rfl)
        go_simp
      · have e17 : X 17 = .bool false := hX 1 17 (by kernel_rfl)
        refine val_ (w1 := wx) (v := .bool false) (by rfl) rfl ?_ (hK.out _ _ _ rfl (Below.refl _ _) rfl)
        go_simp
      · have e18 : X 18 = .bool false := hX 1 18 (by kernel_rfl)
        refine val_ (w1 := wx) (v := .pointer (some ⟨gx, 2, none⟩)) (wanted_of rfl rfl (congrArg some e18)) rfl ?_ (hK.out _ _ _ rfl (Below.refl _ _) rfl)
        go_simp
      · have e18 : X 18 = .bool false := hX 1 18 (by kernel_rfl)
        have e19 : X 19 = .pointer (some ⟨gx, 2, none⟩) := hX 1 19 (by kernel_rfl)
        have z0_ : wx.cell? ⟨gx, 2, none⟩ = some (.bool x.f2) := cell_later hG (show W8.drew.cell? ⟨gx, 2, none⟩ = _ from HZ.out.2.2.1)
        refine val_ (w1 := wx) (v := .bool x.f2) (wanted_of rfl rfl (congrArg some e18)) rfl ?_ (hK.out _ _ _ rfl (Below.refl _ _) rfl)
        go_simp
      · have e18 : X 18 = .bool false := hX 1 18 (by kernel_rfl)
        refine val_ (w1 := wx) (v := .slice (some ad) es.length c7) (wanted_of rfl rfl (congrArg some e18)) rfl ?_ (hK.out _ _ _ rfl (Below.refl _ _) rfl)
        go_simp
      · have e18 : X 18 = .bool false := hX 1 18 (by kernel_rfl)
        refine val_ (w1 := wx) (v := .int .i64 j) (wanted_of rfl rfl (congrArg some e18)) rfl ?_ (hK.out _ _ _ rfl (Below.refl _ _) rfl)
        go_simp
      · have e18 : X 18 = .bool false := hX 1 18 (by kernel_rfl)
        have e21 : X 21 = .slice (some ad) es.length c7 := hX 1 21 (by kernel_rfl)
        have e22 : X 22 = .int .i64 j := hX 1 22 (by kernel_rfl)
        refine val_ (w1 := wx) (v := .pointer (some (ad.add (j * 3)))) (wanted_of rfl rfl (congrArg some e18)) rfl ?_ (hK.out _ _ _ rfl (Below.refl _ _) rfl)
        go_simp
      · have e18 : X 18 = .bool false := hX 1 18 (by kernel_rfl)
        have e23 : X 23 = .pointer (some (ad.add (j * 3))) := hX 1 23 (by kernel_rfl)
        refine val_ (w1 := wx) (v := .pointer (some ⟨(ad.add (j * 3)).block, (ad.add (j * 3)).off + 2, none⟩)) (wanted_of rfl rfl (congrArg some e18)) rfl ?_ (hK.out _ _ _ rfl (Below.refl _ _) rfl)
        go_simp
      · have e18 : X 18 = .bool false := hX 1 18 (by kernel_rfl)
        have e24 : X 24 = .pointer (some ⟨(ad.add (j * 3)).block, (ad.add (j * 3)).off + 2, none⟩) := hX 1 24 (by kernel_rfl)
        have z0_ : wx.cell? ⟨(ad.add (j * 3)).block, (ad.add (j * 3)).off + 2, none⟩ = some (.bool x.f2) := cell_later hG (show W8.drew.cell? ⟨(ad.add (j * 3)).block, (ad.add (j * 3)).off + 2, none⟩ = _ from HZ.out.2.2.2.2.2)
        refine val_ (w1 := wx) (v := .bool x.f2) (wanted_of rfl rfl (congrArg some e18)) rfl ?_ (hK.out _ _ _ rfl (Below.refl _ _) rfl)
        go_simp
      · have e18 : X 18 = .bool false := hX 1 18 (by kernel_rfl)
        have e20 : X 20 = .bool x.f2 := hX 1 20 (by kernel_rfl)
        have e25 : X 25 = .bool x.f2 := hX 1 25 (by kernel_rfl)
        refine val_ (w1 := wx) (v := .bool false) (wanted_of rfl rfl (congrArg some e18)) rfl ?_ (hK.out _ _ _ rfl (Below.refl _ _) rfl)
        go_simp
      · have e18 : X 18 = .bool false := hX 1 18 (by kernel_rfl)
        have e26 : X 26 = .bool false := hX 1 26 (by kernel_rfl)
        refine val_ (w1 := wx) (v := .bool false) (by rfl) rfl ?_ (hK.out _ _ _ rfl (Below.refl _ _) rfl)
        go_simp
      intro X w9 hG hX
      refine tail_done (by kernel_rfl) ?_
      have e27 : X 27 = .bool false := hX 27 (by decide)
      rw [e27]
      have HB9 := Aside0.mk (below_step HBX.out hG)
      have HB3 := Aside0.mk (below_step HB3.out HB9.out)
      have z1 := ((HC.out j hlj (Nat.le_refl _)).below HB9.out).2.1
      have z3 := ((HC.out j hlj (Nat.le_refl _)).below HB9.out).2.2.2
      have hwj := wr_succM j es.length hlj HM.out
      clear hX e27 hG HZ HBX
      go_wp2_with (fail)
      go_roundg (es.length - (j + 1))
      case measure => exact Nat.lt_of_lt_of_le (Nat.sub_lt_sub_left hlj (Nat.lt_succ_self j)) hkj
      case rel => exact ⟨j + 1, by first | rfl | go_num, hlj, Nat.le_refl _, ⟨c3_next HC.out HB9.out _⟩, ⟨HB3.out.setCell HNN.out _⟩⟩
    · have hltj : ¬ (j : Int) < (es.length : Int) := fun q => hlj (Int.ofNat_lt.1 q)
      clear HC HS hlj hkj
      go_upto_region 13 with (first | (go_at_call 55; refine (HOLD.out _ HT.out).mono ?_; rintro e_ w11 ⟨rfl, hb_⟩; have HT := Aside0.mk (HT.out.below hb_); have HV := Aside0.mk (Kd.V_below HV.out hb_); have R4 := Aside0.mk (blk_below R4.out hb_); have HB3 := Aside0.mk (below_step HB3.out hb_); have HB0 := Aside0.mk (Below.refl w11.heap.size w11); clear hb_) | ((with_reducible refine gate_dst (N := 11) rfl ?_); refine box_event ?hg11 (N := 11) ?hd11 (cs := #[.int .u32 0, .int .i64 0, .bool false]) (t := 37) ?hr11 ?_; (case hd11 => rfl); (case hg11 => rfl); (case hr11 => go_simp; try rfl); intro gx hg_ w12 hx_ hb_; have Gx := Aside0.mk hg_; have Hx := Aside0.mk hb_; have Bx := Aside0.mk hx_; clear hg_ hx_ hb_; skip) | ((with_reducible refine gate_store (t := 37) (p := 11) rfl ?_); refine wpList_store_row rfl 37 _ _ rfl gx #[.int .u32 xo.f0, .int .i64 xo.f1, .bool xo.f2] rfl rfl 37 _ Bx.out (by kernel_rfl) (by rfl) (a3_one xo) ?_) | fail)
      have X0 := Aside0.mk ((PH.start HB0.out Hx.out Gx.out Bx.out).set #[.int .u32 xo.f0, .int .i64 xo.f1, .bool xo.f2])
      clear Gx Hx Bx HB0
      refine named ?_
      intro W12 hW12
      rw [← hW12] at X0
      have HT := Aside0.mk (HT.out.below X0.out.bel)
      have HV := Aside0.mk (Kd.V_below HV.out X0.out.bel)
      have R4 := Aside0.mk (blk_below R4.out X0.out.bel)
      have HB3 := Aside0.mk (below_step HB3.out X0.out.bel)
      have RX := Aside0.mk X0.out.row
      clear X0 hW12
      have z0 : W12.cell? ⟨g4, 0, none⟩ = some (.slice A l.length c) := (blk_cell R4.out 0).trans rfl
      have z1 : W12.cell? ⟨g4, 1, none⟩ = some (.int .i64 room) := (blk_cell R4.out 1).trans rfl
      have z2 : W12.cell? ⟨g4, 2, none⟩ = some (.int .i64 span) := (blk_cell R4.out 2).trans rfl
      go_upto_region 14 with (first | (go_at_call 48; refine (HROLD.out _ HV.out).mono ?_; rintro e_ w14 ⟨rfl, hb_⟩; have HT := Aside0.mk (HT.out.below hb_); have HV := Aside0.mk (Kd.V_below HV.out hb_); have R4 := Aside0.mk (blk_below R4.out hb_); have RX := Aside0.mk (blk_below RX.out hb_); have HB3 := Aside0.mk (below_step HB3.out hb_); clear hb_) | fail)
      clear z0 z1 z2
      go_cut [12, 13, 126] (fun v12 v13 v126 wc => v126 = .bool false ∧ Aside0 (Below w14.heap.size w14 wc))
      case first =>
        rcases HOC.out with ⟨h1, h2⟩ | ⟨h1, i, hi, h2, hx⟩
        · subst h1 h2
          clear HOC HEC HT HV R4 RX HB3
          refine region_below (T := ?TR14a) (n := 0) [some 98, some 99, some 100, some 101, some 102, some 103, some 104, some 105, some 106, some 107, some 108, some 109, some 110, some 111, some 112, some 113, some 114, some 115, some 116, some 117, some 118, some 119, some 120, some 121, some 122, some 123, some 124, some 125, some 126] ?hTR14a (fun i_ v_ _ => v_ = R14a  i_) (by kernel_rfl) (by kernel_rfl) (fun i_ v_ w_ w1_ _ h_ _ => h_) [0, 1, 2, 3, 4, 5, 6, 7, 8, 9, 10, 11, 12, 13, 14, 15, 16, 17, 18, 19, 20, 21, 22, 23, 24, 25, 26, 27, 28] rfl (.cons (some 98) rfl rfl (fun X wx hG hX K hK => ?_) (.cons (some 99) rfl rfl (fun X wx hG hX K hK => ?_) (.cons (some 100) rfl rfl (fun X wx hG hX K hK => ?_) (.cons (some 101) rfl rfl (fun X wx hG hX K hK => ?_) (.cons (some 102) rfl rfl (fun X wx hG hX K hK => ?_) (.cons (some 103) rfl rfl (fun X wx hG hX K hK => ?_) (.cons (some 104) rfl rfl (fun X wx hG hX K hK => ?_) (.cons (some 105) rfl rfl (fun X wx hG hX K hK => ?_) (.cons (some 106) rfl rfl (fun X wx hG hX K hK => ?_) (.cons (some 107) rfl rfl (fun X wx hG hX K hK => ?_) (.cons (some 108) rfl rfl (fun X wx hG hX K hK => ?_) (.cons (some 109) rfl rfl (fun X wx hG hX K hK => ?_) (.cons (some 110) rfl rfl (fun X wx hG hX K hK => ?_) (.cons (some 111) rfl rfl (fun X wx hG hX K hK => ?_) (.cons (some 112) rfl rfl (fun X wx hG hX K hK => ?_) (.cons (some 113) rfl rfl (fun X wx hG hX K hK => ?_) (.cons (some 114) rfl rfl (fun X wx hG hX K hK => ?_) (.cons (some 115) rfl rfl (fun X wx hG hX K hK => ?_) (.cons (some 116) rfl rfl (fun X wx hG hX K hK => ?_) (.cons (some 117) rfl rfl (fun X wx hG hX K hK => ?_) (.cons (some 118) rfl rfl (fun X wx hG hX K hK => ?_) (.cons (some 119) rfl rfl (fun X wx hG hX K hK => ?_) (.cons (some 120) rfl rfl (fun X wx hG hX K hK => ?_) (.cons (some 121) rfl rfl (fun X wx hG hX K hK => ?_) (.cons (some 122) rfl rfl (fun X wx hG hX K hK => ?_) (.cons (some 123) rfl rfl (fun X wx hG hX K hK => ?_) (.cons (some 124) rfl rfl (fun X wx hG hX K hK => ?_) (.cons (some 125) rfl rfl (fun X wx hG hX K hK => ?_) (.cons (some 126) rfl rfl (fun X wx hG hX K hK => ?_) .nil))))))))))))))))))))))))))))) (by kernel_rfl) #[true, true, true, true, true, true, true, true, true, true, true, true, true, true, true, true, true, true, true, true, true, true, true, true, true, true, true, true, true] (by kernel_rfl) ?_
          case hTR14a =>
            intro X
            simp only [fill, Act.put, List.setIfInBounds_toArray, List.set_cons_zero, List.set_cons_succ, Nat.zero_add, Nat.reduceAdd]
            rfl
          · refine val_ (w1 := wx) (v := .bool false) (by rfl) rfl ?_ (hK.out _ _ _ rfl (Below.refl _ _) rfl)
            go_simp
          · refine val_ (w1 := wx) (v := .int .i64 (-1)) (by rfl) rfl ?_ (hK.out _ _ _ rfl (Below.refl _ _) rfl)
            go_simp
          · have e1 : X 1 = .int .i64 (-1) := hX 1 1 (by kernel_rfl)
            refine val_ (w1 := wx) (v := .bool false) (by rfl) rfl ?_ (hK.out _ _ _ rfl (Below.refl _ _) rfl)
            go_simp
          · have e0 : X 0 = .bool false := hX 1 0 (by kernel_rfl)
            have e2 : X 2 = .bool false := hX 1 2 (by kernel_rfl)
            refine val_ (w1 := wx) (v := .bool false) (by rfl) rfl ?_ (hK.out _ _ _ rfl (Below.refl _ _) rfl)
            go_simp
          · have e3 : X 3 = .bool false := hX 1 3 (by kernel_rfl)
            refine val_ (w1 := wx) (v := .bool false) (by rfl) rfl ?_ (hK.out _ _ _ rfl (Below.refl _ _) rfl)
            go_simp
          · have e4 : X 4 = .bool false := hX 1 4 (by kernel_rfl)
            refine val_ (w1 := wx) (v := .bool false) (wanted_of rfl rfl (congrArg some e4)) rfl ?_ (hK.out _ _ _ rfl (Below.refl _ _) rfl)
            go_simp
          · have e4 : X 4 = .bool false := hX 1 4 (by kernel_rfl)
            have e5 : X 5 = .bool false := hX 1 5 (by kernel_rfl)
            refine val_ (w1 := wx) (v := .bool false) (wanted_of rfl rfl (congrArg some e4)) rfl ?_ (hK.out _ _ _ rfl (Below.refl _ _) rfl)
            go_simp
          · have e6 : X 6 = .bool false := hX 1 6 (by kernel_rfl)
            rw [if_neg (by rw [wanted_not rfl rfl (congrArg some e6)]; decide)]
            exact hK.out _ undef _ rfl (Below.refl _ _) rfl
          · have e6 : X 6 = .bool false := hX 1 6 (by kernel_rfl)
            rw [if_neg (by rw [wanted_not rfl rfl (congrArg some e6)]; decide)]
            exact hK.out _ undef _ rfl (Below.refl _ _) rfl
          · have e6 : X 6 = .bool false := hX 1 6 (by kernel_rfl)
            rw [if_neg (by rw [wanted_not rfl rfl (congrArg some e6)]; decide)]
            exact hK.out _ undef _ rfl (Below.refl _ _) rfl
          · have e6 : X 6 = .bool false := hX 1 6 (by kernel_rfl)
            rw [if_neg (by rw [wanted_not rfl rfl (congrArg some e6)]; decide)]
            exact hK.out _ undef _ rfl (Below.refl _ _) rfl
          · have e6 : X 6 = .bool false := hX 1 6 (by kernel_rfl)
            rw [if_neg (by rw [wanted_not rfl rfl (congrArg some e6)]; decide)]
            exact hK.out _ undef _ rfl (Below.refl _ _) rfl
          · have e6 : X 6 = .bool false := hX 1 6 (by kernel_rfl)
            rw [if_neg (by rw [wanted_not rfl rfl (congrArg some e6)]; decide)]
            exact hK.out _ undef _ rfl (Below.refl _ _) rfl
          · have e6 : X 6 = .bool false := hX 1 6 (by kernel_rfl)
            rw [if_neg (by rw [wanted_not rfl rfl (congrArg some e6)]; decide)]
            exact hK.out _ undef _ rfl (Below.refl _ _) rfl
          · have e6 : X 6 = .bool false := hX 1 6 (by kernel_rfl)
            rw [if_neg (by rw [wanted_not rfl rfl (congrArg some e6)]; decide)]
            exact hK.out _ undef _ rfl (Below.refl _ _) rfl
          · have e6 : X 6 = .bool false := hX 1 6 (by kernel_rfl)
            rw [if_neg (by rw [wanted_not rfl rfl (congrArg some e6)]; decide)]
            exact hK.out _ undef _ rfl (Below.refl _ _) rfl
          · have e6 : X 6 = .bool false := hX 1 6 (by kernel_rfl)
            rw [if_neg (by rw [wanted_not rfl rfl (congrArg some e6)]; decide)]
            exact hK.out _ undef _ rfl (Below.refl _ _) rfl
          · have e16 : X 16 = undef := hX 1 16 (by kernel_rfl)
            rw [if_neg (by rw [wanted_undef rfl rfl (congrArg some e16)]; decide)]
            exact hK.out _ undef _ rfl (Below.refl _ _) rfl
          · have e16 : X 16 = undef := hX 1 16 (by kernel_rfl)
            rw [if_neg (by rw [wanted_undef rfl rfl (congrArg some e16)]; decide)]
            exact hK.out _ undef _ rfl (Below.refl _ _) rfl
          · have e16 : X 16 = undef := hX 1 16 (by kernel_rfl)
            rw [if_neg (by rw [wanted_undef rfl rfl (congrArg some e16)]; decide)]
            exact hK.out _ undef _ rfl (Below.refl _ _) rfl
          · have e16 : X 16 = undef := hX 1 16 (by kernel_rfl)
            rw [if_neg (by rw [wanted_undef rfl rfl (congrArg some e16)]; decide)]
            exact hK.out _ undef _ rfl (Below.refl _ _) rfl
          · have e16 : X 16 = undef := hX 1 16 (by kernel_rfl)
            rw [if_neg (by rw [wanted_undef rfl rfl (congrArg some e16)]; decide)]
            exact hK.out _ undef _ rfl (Below.refl _ _) rfl
          · have e16 : X 16 = undef := hX 1 16 (by kernel_rfl)
            rw [if_neg (by rw [wanted_undef rfl rfl (congrArg some e16)]; decide)]
            exact hK.out _ undef _ rfl (Below.refl _ _) rfl
          · have e16 : X 16 = undef := hX 1 16 (by kernel_rfl)
            rw [if_neg (by rw [wanted_undef rfl rfl (congrArg some e16)]; decide)]
            exact hK.out _ undef _ rfl (Below.refl _ _) rfl
          · have e16 : X 16 = undef := hX 1 16 (by kernel_rfl)
            rw [if_neg (by rw [wanted_undef rfl rfl (congrArg some e16)]; decide)]
            exact hK.out _ undef _ rfl (Below.refl _ _) rfl
          · have e16 : X 16 = undef := hX 1 16 (by kernel_rfl)
            rw [if_neg (by rw [wanted_undef rfl rfl (congrArg some e16)]; decide)]
            exact hK.out _ undef _ rfl (Below.refl _ _) rfl
          · have e6 : X 6 = .bool false := hX 1 6 (by kernel_rfl)
            rw [if_neg (by rw [wanted_not rfl rfl (congrArg some e6)]; decide)]
            exact hK.out _ undef _ rfl (Below.refl _ _) rfl
          · have e4 : X 4 = .bool false := hX 1 4 (by kernel_rfl)
            have e6 : X 6 = .bool false := hX 1 6 (by kernel_rfl)
            have e26 : X 26 = undef := hX 1 26 (by kernel_rfl)
            refine val_ (w1 := wx) (v := .bool false) (wanted_of rfl rfl (congrArg some e4)) rfl ?_ (hK.out _ _ _ rfl (Below.refl _ _) rfl)
            go_simp
          · have e4 : X 4 = .bool false := hX 1 4 (by kernel_rfl)
            have e27 : X 27 = .bool false := hX 1 27 (by kernel_rfl)
            refine val_ (w1 := wx) (v := .bool false) (by rfl) rfl ?_ (hK.out _ _ _ rfl (Below.refl _ _) rfl)
            go_simp
          intro X w15 hG hX
          refine tail_done (by kernel_rfl) ?_
          have e28 : X 28 = .bool false := hX 28 (by decide)
          rw [e28]
          clear hX e28
          go_wp2_with (fail)
          go_meet
          exact ⟨rfl, ⟨hG⟩⟩
        · subst h1 h2
          obtain ⟨ad, eA, y0, y1, y2⟩ := v94_at HV.out i hi
          rw [hx] at y0 y1 y2
          subst eA
          have HZ : Aside0 (w14.cell? ⟨gx, 0, none⟩ = some (.int .u32 xo.f0) ∧ w14.cell? ⟨gx, 1, none⟩ = some (.int .i64 xo.f1) ∧ w14.cell? ⟨gx, 2, none⟩ = some (.bool xo.f2) ∧ w14.cell? ⟨g4, 0, none⟩ = some (.slice (some ad) l.length c) ∧ w14.cell? (ad.add (i * 3)) = some (.int .u32 xo.f0) ∧ w14.cell? ⟨(ad.add (i * 3)).block, (ad.add (i * 3)).off + 1, none⟩ = some (.int .i64 xo.f1) ∧ w14.cell? ⟨(ad.add (i * 3)).block, (ad.add (i * 3)).off + 2, none⟩ = some (.bool xo.f2)) :=
            ⟨(blk_cell RX.out 0).trans rfl, (blk_cell RX.out 1).trans rfl, (blk_cell RX.out 2).trans rfl, (blk_cell R4.out 0).trans rfl, y0, y1, y2⟩
          have hlti : (i : Int) < (l.length : Int) := Int.ofNat_lt.2 hi
          have h0i : decide (0 ≤ (i : Int)) = true := decide_eq_true (Int.natCast_nonneg i)
          clear y0 y1 y2 hx HOC HEC HT HV R4 RX HB3
          refine region_below (T := ?TR14b) (n := 0) [some 98, some 99, some 100, some 101, some 102, some 103, some 104, some 105, some 106, some 107, some 108, some 109, some 110, some 111, some 112, some 113, some 114, some 115, some 116, some 117, some 118, some 119, some 120, some 121, some 122, some 123, some 124, some 125, some 126] ?hTR14b (fun i_ v_ _ => v_ = R14b gx g4 c i ad l xo i_) (by kernel_rfl) (by kernel_rfl) (fun i_ v_ w_ w1_ _ h_ _ => h_) [0, 1, 2, 3, 4, 5, 6, 7, 8, 9, 10, 11, 12, 13, 14, 15, 16, 17, 18, 19, 20, 21, 22, 23, 24, 25, 26, 27, 28] rfl (.cons (some 98) rfl rfl (fun X wx hG hX K hK => ?_) (.cons (some 99) rfl rfl (fun X wx hG hX K hK => ?_) (.cons (some 100) rfl rfl (fun X wx hG hX K hK => ?_) (.cons (some 101) rfl rfl (fun X wx hG hX K hK => ?_) (.cons (some 102) rfl rfl (fun X wx hG hX K hK => ?_) (.cons (some 103) rfl rfl (fun X wx hG hX K hK => ?_) (.cons (some 104) rfl rfl (fun X wx hG hX K hK => ?_) (.cons (some 105) rfl rfl (fun X wx hG hX K hK => ?_) (.cons (some 106) rfl rfl (fun X wx hG hX K hK => ?_) (.cons (some 107) rfl rfl (fun X wx hG hX K hK => ?_) (.cons (some 108) rfl rfl (fun X wx hG hX K hK => ?_) (.cons (some 109) rfl rfl (fun X wx hG hX K hK => ?_) (.cons (some 110) rfl rfl (fun X wx hG hX K hK => ?_) (.cons (some 111) rfl rfl (fun X wx hG hX K hK => ?_) (.cons (some 112) rfl rfl (fun X wx hG hX K hK => ?_) (.cons (some 113) rfl rfl (fun X wx hG hX K hK => ?_) (.cons (some 114) rfl rfl (fun X wx hG hX K hK => ?_) (.cons (some 115) rfl rfl (fun X wx hG hX K hK => ?_) (.cons (some 116) rfl rfl (fun X wx hG hX K hK => ?_) (.cons (some 117) rfl rfl (fun X wx hG hX K hK => ?_) (.cons (some 118) rfl rfl (fun X wx hG hX K hK => ?_) (.cons (some 119) rfl rfl (fun X wx hG hX K hK => ?_) (.cons (some 120) rfl rfl (fun X wx hG hX K hK => ?_) (.cons (some 121) rfl rfl (fun X wx hG hX K hK => ?_) (.cons (some 122) rfl rfl (fun X wx hG hX K hK => ?_) (.cons (some 123) rfl rfl (fun X wx hG hX K hK => ?_) (.cons (some 124) rfl rfl (fun X wx hG hX K hK => ?_) (.cons (some 125) rfl rfl (fun X wx hG hX K hK => ?_) (.cons (some 126) rfl rfl (fun X wx hG hX K hK => ?_) .nil))))))))))))))))))))))))))))) (by kernel_rfl) #[true, true, true, true, true, true, true, true, true, true, true, true, true, true, true, true, true, true, true, true, true, true, true, true, true, true, true, true, true] (by kernel_rfl) ?_
          case hTR14b =>
            intro X
            simp only [fill, Act.put, List.setIfInBounds_toArray, List.set_cons_zero, List.set_cons_succ, Nat.zero_add, Nat.reduceAdd]
            rfl
          · refine val_ (w1 := wx) (v := .bool true) (by rfl) rfl ?_ (hK.out _ _ _ rfl (Below.refl _ _) rfl)
            go_simp
          · refine val_ (w1 := wx) (v := .int .i64 i) (by rfl) rfl ?_ (hK.out _ _ _ rfl (Below.refl _ _) rfl)
            go_simp
          · have e1 : X 1 = .int .i64 i := hX 1 1 (by kernel_rfl)
            refine val_ (w1 := wx) (v := .bool true) (by rfl) rfl ?_ (hK.out _ _ _ rfl (Below.refl _ _) rfl)
            go_simp
          · have e0 : X 0 = .bool true := hX 1 0 (by kernel_rfl)
            have e2 : X 2 = .bool true := hX 1 2 (by kernel_rfl)
            refine val_ (w1 := wx) (v := .bool false) (by rfl) rfl ?_ (hK.out _ _ _ rfl (Below.refl _ _) rfl)
            go_simp
          · have e3 : X 3 = .bool false := hX 1 3 (by kernel_rfl)
            refine val_ (w1 := wx) (v := .bool false) (by rfl) rfl ?_ (hK.out _ _ _ rfl (Below.refl _ _) rfl)
            go_simp
          · have e4 : X 4 = .bool false := hX 1 4 (by kernel_rfl)
            refine val_ (w1 := wx) (v := .bool true) (wanted_of rfl rfl (congrArg some e4)) rfl ?_ (hK.out _ _ _ rfl (Below.refl _ _) rfl)
            go_simp
          · have e4 : X 4 = .bool false := hX 1 4 (by kernel_rfl)
            have e5 : X 5 = .bool true := hX 1 5 (by kernel_rfl)
            refine val_ (w1 := wx) (v := .bool true) (wanted_of rfl rfl (congrArg some e4)) rfl ?_ (hK.out _ _ _ rfl (Below.refl _ _) rfl)
            go_simp
          · have e6 : X 6 = .bool true := hX 1 6 (by kernel_rfl)
            refine val_ (w1 := wx) (v := .pointer (some ⟨gx, 0, none⟩)) (wanted_of rfl rfl (congrArg some e6)) rfl ?_ (hK.out _ _ _ rfl (Below.refl _ _) rfl)
            go_simp
          · have e6 : X 6 = .bool true := hX 1 6 (by kernel_rfl)
            have e7 : X 7 = .pointer (some ⟨gx, 0, none⟩) := hX 1 7 (by kernel_rfl)
            have z0_ : wx.cell? ⟨gx, 0, none⟩ = some (.int .u32 xo.f0) := cell_later hG (show w14.drew.cell? ⟨gx, 0, none⟩ = _ from HZ.out.1)
            refine val_ (w1 := wx) (v := .int .u32 xo.f0) (wanted_of rfl rfl (congrArg some e6)) rfl ?_ (hK.out _ _ _ rfl (Below.refl _ _) rfl)
            go_simp
          · have e6 : X 6 = .bool true := hX 1 6 (by kernel_rfl)
            refine val_ (w1 := wx) (v := .pointer (some ⟨g4, 0, none⟩)) (wanted_of rfl rfl (congrArg some e6)) rfl ?_ (hK.out _ _ _ rfl (Below.refl _ _) rfl)
            go_simp
          · have e6 : X 6 = .bool true := hX 1 6 (by kernel_rfl)
            have e9 : X 9 = .pointer (some ⟨g4, 0, none⟩) := hX 1 9 (by kernel_rfl)
            have z0_ : wx.cell? ⟨g4, 0, none⟩ = some (.slice (some ad) l.length c) := cell_later hG (show w14.drew.cell? ⟨g4, 0, none⟩ = _ from HZ.out.2.2.2.1)
            refine val_ (w1 := wx) (v := .slice (some ad) l.length c) (wanted_of rfl rfl (congrArg some e6)) rfl ?_ (hK.out _ _ _ rfl (Below.refl _ _) rfl)
            go_simp
          · have e6 : X 6 = .bool true := hX 1 6 (by kernel_rfl)
            refine val_ (w1 := wx) (v := .int .i64 i) (wanted_of rfl rfl (congrArg some e6)) rfl ?_ (hK.out _ _ _ rfl (Below.refl _ _) rfl)
            go_simp
          · have e6 : X 6 = .bool true := hX 1 6 (by kernel_rfl)
            have e10 : X 10 = .slice (some ad) l.length c := hX 1 10 (by kernel_rfl)
            have e11 : X 11 = .int .i64 i := hX 1 11 (by kernel_rfl)
            refine val_ (w1 := wx) (v := .pointer (some (ad.add (i * 3)))) (wanted_of rfl rfl (congrArg some e6)) rfl ?_ (hK.out _ _ _ rfl (Below.refl _ _) rfl)
            go_simp
          · have e6 : X 6 = .bool true := hX 1 6 (by kernel_rfl)
            have e12 : X 12 = .pointer (some (ad.add (i * 3))) := hX 1 12 (by kernel_rfl)
            refine val_ (w1 := wx) (v := .pointer (some (ad.add (i * 3)))) (wanted_of rfl rfl (congrArg some e6)) rfl ?_ (hK.out _ _ _ rfl (Below.refl _ _) rfl)
            go_simp
          · have e6 : X 6 = .bool true := hX 1 6 (by kernel_rfl)
            have e13 : X 13 = .pointer (some (ad.add (i * 3))) := hX 1 13 (by kernel_rfl)
            have z0_ : wx.cell? (ad.add (i * 3)) = some (.int .u32 xo.f0) := cell_later hG (show w14.drew.cell? (ad.add (i * 3)) = _ from HZ.out.2.2.2.2.1)
            refine val_ (w1 := wx) (v := .int .u32 xo.f0) (wanted_of rfl rfl (congrArg some e6)) rfl ?_ (hK.out _ _ _ rfl (Below.refl _ _) rfl)
            go_simp
          · have e6 : X 6 = .bool true := hX 1 6 (by kernel_rfl)
            have e8 : X 8 = .int .u32 xo.f0 := hX 1 8 (by kernel_rfl)
            have e14 : X 14 = .int .u32 xo.f0 := hX 1 14 (by kernel_rfl)
            refine val_ (w1 := wx) (v := .bool false) (wanted_of rfl rfl (congrArg some e6)) rfl ?_ (hK.out _ _ _ rfl (Below.refl _ _) rfl)
            go_simp
          · have e6 : X 6 = .bool true := hX 1 6 (by kernel_rfl)
            have e15 : X 15 = .bool false := hX 1 15 (by kernel_rfl)
            refine val_ (w1 := wx) (v := .bool false) (wanted_of rfl rfl (congrArg some e6)) rfl ?_ (hK.out _ _ _ rfl (Below.refl _ _) rfl)
            go_simp
          · have e16 : X 16 = .bool false := hX 1 16 (by kernel_rfl)
            refine val_ (w1 := wx) (v := .pointer (some ⟨gx, 1, none⟩)) (wanted_of rfl rfl (congrArg some e16)) rfl ?_ (hK.out _ _ _ rfl (Below.refl _ _) rfl)
            go_simp
          · have e16 : X 16 = .bool false := hX 1 16 (by kernel_rfl)
            have e17 : X 17 = .pointer (some ⟨gx, 1, none⟩) := hX 1 17 (by kernel_rfl)
            have z0_ : wx.cell? ⟨gx, 1, none⟩ = some (.int .i64 xo.f1) := cell_later hG (show w14.drew.cell? ⟨gx, 1, none⟩ = _ from HZ.out.2.1)
            refine val_ (w1 := wx) (v := .int .i64 xo.f1) (wanted_of rfl rfl (congrArg some e16)) rfl ?_ (hK.out _ _ _ rfl (Below.refl _ _) rfl)
            go_simp
          · have e16 : X 16 = .bool false := hX 1 16 (by kernel_rfl)
            refine val_ (w1 := wx) (v := .pointer (some ⟨g4, 0, none⟩)) (wanted_of rfl rfl (congrArg some e16)) rfl ?_ (hK.out _ _ _ rfl (Below.refl _ _) rfl)
            go_simp
          · have e16 : X 16 = .bool false := hX 1 16 (by kernel_rfl)
            have e19 : X 19 = .pointer (some ⟨g4, 0, none⟩) := hX 1 19 (by kernel_rfl)
            have z0_ : wx.cell? ⟨g4, 0, none⟩ = some (.slice (some ad) l.length c) := cell_later hG (show w14.drew.cell? ⟨g4, 0, none⟩ = _ from HZ.out.2.2.2.1)
            refine val_ (w1 := wx) (v := .slice (some ad) l.length c) (wanted_of rfl rfl (congrArg some e16)) rfl ?_ (hK.out _ _ _ rfl (Below.refl _ _) rfl)
            go_simp
          · have e16 : X 16 = .bool false := hX 1 16 (by kernel_rfl)
            refine val_ (w1 := wx) (v := .int .i64 i) (wanted_of rfl rfl (congrArg some e16)) rfl ?_ (hK.out _ _ _ rfl (Below.refl _ _) rfl)
            go_simp
          · have e16 : X 16 = .bool false := hX 1 16 (by kernel_rfl)
            have e20 : X 20 = .slice (some ad) l.length c := hX 1 20 (by kernel_rfl)
            have e21 : X 21 = .int .i64 i := hX 1 21 (by kernel_rfl)
            refine val_ (w1 := wx) (v := .pointer (some (ad.add (i * 3)))) (wanted_of rfl rfl (congrArg some e16)) rfl ?_ (hK.out _ _ _ rfl (Below.refl _ _) rfl)
            go_simp
          · have e16 : X 16 = .bool false := hX 1 16 (by kernel_rfl)
            have e22 : X 22 = .pointer (some (ad.add (i * 3))) := hX 1 22 (by kernel_rfl)
            refine val_ (w1 := wx) (v := .pointer (some ⟨(ad.add (i * 3)).block, (ad.add (i * 3)).off + 1, none⟩)) (wanted_of rfl rfl (congrArg some e16)) rfl ?_ (hK.out _ _ _ rfl (Below.refl _ _) rfl)
            go_simp
          · have e16 : X 16 = .bool false := hX 1 16 (by kernel_rfl)
            have e23 : X 23 = .pointer (some ⟨(ad.add (i * 3)).block, (ad.add (i * 3)).off + 1, none⟩) := hX 1 23 (by kernel_rfl)
            have z0_ : wx.cell? ⟨(ad.add (i * 3)).block, (ad.add (i * 3)).off + 1, none⟩ = some (.int .i64 xo.f1) := cell_later hG (show w14.drew.cell? ⟨(ad.add (i * 3)).block, (ad.add (i * 3)).off + 1, none⟩ = _ from HZ.out.2.2.2.2.2.1)
            refine val_ (w1 := wx) (v := .int .i64 xo.f1) (wanted_of rfl rfl (congrArg some e16)) rfl ?_ (hK.out _ _ _ rfl (Below.refl _ _) rfl)
            go_simp
          · have e16 : X 16 = .bool false := hX 1 16 (by kernel_rfl)
            have e18 : X 18 = .int .i64 xo.f1 := hX 1 18 (by kernel_rfl)
            have e24 : X 24 = .int .i64 xo.f1 := hX 1 24 (by kernel_rfl)
            refine val_ (w1 := wx) (v := .bool false) (wanted_of rfl rfl (congrArg some e16)) rfl ?_ (hK.out _ _ _ rfl (Below.refl _ _) rfl)
            go_simp
          · have e6 : X 6 = .bool true := hX 1 6 (by kernel_rfl)
            have e16 : X 16 = .bool false := hX 1 16 (by kernel_rfl)
            have e25 : X 25 = .bool false := hX 1 25 (by kernel_rfl)
            refine val_ (w1 := wx) (v := .bool false) (wanted_of rfl rfl (congrArg some e6)) rfl ?_ (hK.out _ _ _ rfl (Below.refl _ _) rfl)
            go_simp
          · have e4 : X 4 = .bool false := hX 1 4 (by kernel_rfl)
            have e6 : X 6 = .bool true := hX 1 6 (by kernel_rfl)
            have e26 : X 26 = .bool false := hX 1 26 (by kernel_rfl)
            refine val_ (w1 := wx) (v := .bool false) (wanted_of rfl rfl (congrArg some e4)) rfl ?_ (hK.out _ _ _ rfl (Below.refl _ _) rfl)
            go_simp
          · have e4 : X 4 = .bool false := hX 1 4 (by kernel_rfl)
            have e27 : X 27 = .bool false := hX 1 27 (by kernel_rfl)
            refine val_ (w1 := wx) (v := .bool false) (by rfl) rfl ?_ (hK.out _ _ _ rfl (Below.refl _ _) rfl)
            go_simp
          intro X w15 hG hX
          refine tail_done (by kernel_rfl) ?_
          have e28 : X 28 = .bool false := hX 28 (by decide)
          rw [e28]
          clear hX e28
          go_wp2_with (fail)
          go_meet
          exact ⟨rfl, ⟨hG⟩⟩
      case rest =>
        obtain ⟨rfl, hwc⟩ := hcut
        have HT := Aside0.mk (HT.out.below hwc.out)
        have HV := Aside0.mk (Kd.V_below HV.out hwc.out)
        have R4 := Aside0.mk (blk_below R4.out hwc.out)
        have HB3 := Aside0.mk (below_step HB3.out hwc.out)
        clear RX hwc
        go_upto_region 17 with (first | (go_at_call 11; refine (HENY.out _ HT.out).mono ?_; rintro e_ w16 ⟨rfl, hb_⟩; have HT := Aside0.mk (HT.out.below hb_); have HV := Aside0.mk (Kd.V_below HV.out hb_); have R4 := Aside0.mk (blk_below R4.out hb_); have HB3 := Aside0.mk (below_step HB3.out hb_); have HB0 := Aside0.mk (Below.refl w16.heap.size w16); clear hb_) | ((with_reducible refine gate_dst (N := 14) rfl ?_); refine box_event ?hg14 (N := 14) ?hd14 (cs := #[.int .u32 0, .int .i64 0, .bool false]) (t := 37) ?hr14 ?_; (case hd14 => rfl); (case hg14 => rfl); (case hr14 => go_simp; try rfl); intro gx hg_ w17 hx_ hb_; have Gx := Aside0.mk hg_; have Hx := Aside0.mk hb_; have Bx := Aside0.mk hx_; clear hg_ hx_ hb_; skip) | ((with_reducible refine gate_store (t := 37) (p := 14) rfl ?_); refine wpList_store_row rfl 37 _ _ rfl gx #[.int .u32 xe.f0, .int .i64 xe.f1, .bool xe.f2] rfl rfl 37 _ Bx.out (by kernel_rfl) (by rfl) (a3_one xe) ?_) | fail)
        have X0 := Aside0.mk ((PH.start HB0.out Hx.out Gx.out Bx.out).set #[.int .u32 xe.f0, .int .i64 xe.f1, .bool xe.f2])
        clear Gx Hx Bx HB0
        refine named ?_
        intro W17 hW17
        rw [← hW17] at X0
        have HV := Aside0.mk (Kd.V_below HV.out X0.out.bel)
        have R4 := Aside0.mk (blk_below R4.out X0.out.bel)
        have HB3 := Aside0.mk (below_step HB3.out X0.out.bel)
        have RX := Aside0.mk X0.out.row
        clear X0 hW17 HT
        have z0 : W17.cell? ⟨g4, 0, none⟩ = some (.slice A l.length c) := (blk_cell R4.out 0).trans rfl
        have z1 : W17.cell? ⟨g4, 1, none⟩ = some (.int .i64 room) := (blk_cell R4.out 1).trans rfl
        have z2 : W17.cell? ⟨g4, 2, none⟩ = some (.int .i64 span) := (blk_cell R4.out 2).trans rfl
        go_upto_region 18 with (first | (go_at_call 27; refine (HFIND.out _ HV.out).mono ?_; rintro e_ w19 ⟨rfl, hb_⟩; have HV := Aside0.mk (Kd.V_below HV.out hb_); have R4 := Aside0.mk (blk_below R4.out hb_); have RX := Aside0.mk (blk_below RX.out hb_); have HB3 := Aside0.mk (below_step HB3.out hb_); clear hb_) | fail)
        clear z0 z1 z2
        rcases HEC.out with ⟨h1, h2, h3⟩ | ⟨h1, h3, i, hi, h2, hx⟩
        · subst h1 h2 h3
          have HZ : Aside0 (w19.cell? ⟨gx, 0, none⟩ = some (.int .u32 0) ∧ w19.cell? ⟨gx, 1, none⟩ = some (.int .i64 0) ∧ w19.cell? ⟨gx, 2, none⟩ = some (.bool false)) := ⟨⟨(blk_cell RX.out 0).trans rfl, (blk_cell RX.out 1).trans rfl, (blk_cell RX.out 2).trans rfl⟩⟩
          clear HOC HEC HV R4 RX
          refine region_below (T := ?TR18a) (n := 0) [some 136, some 137, some 138, some 139, some 140, some 141, some 142, some 143, some 144, some 145, some 146, some 147, some 148, some 149, some 150, some 151, some 152, some 153, some 154, some 155, some 156, some 157, some 158, some 159, some 160, some 161, some 162, some 163, some 164, some 165, some 166, some 167, some 168, some 169, some 170, some 171, some 172, some 173, some 174, some 175, some 176, some 177, some 178, some 179, some 6] ?hTR18a (fun i_ v_ _ => v_ = R18a  i_) (by kernel_rfl) (by kernel_rfl) (fun i_ v_ w_ w1_ _ h_ _ => h_) [0, 1, 2, 3, 4, 5, 6, 7, 8, 9, 10, 11, 12, 13, 14, 15, 16, 17, 18, 19, 20, 21, 22, 23, 24, 25, 26, 27, 28, 29, 30, 31, 32, 33, 34, 35, 36, 37, 38, 39, 40, 41, 42, 43, 44] rfl (.cons (some 136) rfl rfl (fun X wx hG hX K hK => ?_) (.cons (some 137) rfl rfl (fun X wx hG hX K hK => ?_) (.cons (some 138) rfl rfl (fun X wx hG hX K hK => ?_) (.cons (some 139) rfl rfl (fun X wx hG hX K hK => ?_) (.cons (some 140) rfl rfl (fun X wx hG hX K hK => ?_) (.cons (some 141) rfl rfl (fun X wx hG hX K hK => ?_) (.cons (some 142) rfl rfl (fun X wx hG hX K hK => ?_) (.cons (some 143) rfl rfl (fun X wx hG hX K hK => ?_) (.cons (some 144) rfl rfl (fun X wx hG hX K hK => ?_) (.cons (some 145) rfl rfl (fun X wx hG hX K hK => ?_) (.cons (some 146) rfl rfl (fun X wx hG hX K hK => ?_) (.cons (some 147) rfl rfl (fun X wx hG hX K hK => ?_) (.cons (some 148) rfl rfl (fun X wx hG hX K hK => ?_) (.cons (some 149) rfl rfl (fun X wx hG hX K hK => ?_) (.cons (some 150) rfl rfl (fun X wx hG hX K hK => ?_) (.cons (some 151) rfl rfl (fun X wx hG hX K hK => ?_) (.cons (some 152) rfl rfl (fun X wx hG hX K hK => ?_) (.cons (some 153) rfl rfl (fun X wx hG hX K hK => ?_) (.cons (some 154) rfl rfl (fun X wx hG hX K hK => ?_) (.cons (some 155) rfl rfl (fun X wx hG hX K hK => ?_) (.cons (some 156) rfl rfl (fun X wx hG hX K hK => ?_) (.cons (some 157) rfl rfl (fun X wx hG hX K hK => ?_) (.cons (some 158) rfl rfl (fun X wx hG hX K hK => ?_) (.cons (some 159) rfl rfl (fun X wx hG hX K hK => ?_) (.cons (some 160) rfl rfl (fun X wx hG hX K hK => ?_) (.cons (some 161) rfl rfl (fun X wx hG hX K hK => ?_) (.cons (some 162) rfl rfl (fun X wx hG hX K hK => ?_) (.cons (some 163) rfl rfl (fun X wx hG hX K hK => ?_) (.cons (some 164) rfl rfl (fun X wx hG hX K hK => ?_) (.cons (some 165) rfl rfl (fun X wx hG hX K hK => ?_) (.cons (some 166) rfl rfl (fun X wx hG hX K hK => ?_) (.cons (some 167) rfl rfl (fun X wx hG hX K hK => ?_) (.cons (some 168) rfl rfl (fun X wx hG hX K hK => ?_) (.cons (some 169) rfl rfl (fun X wx hG hX K hK => ?_) (.cons (some 170) rfl rfl (fun X wx hG hX K hK => ?_) (.cons (some 171) rfl rfl (fun X wx hG hX K hK => ?_) (.cons (some 172) rfl rfl (fun X wx hG hX K hK => ?_) (.cons (some 173) rfl rfl (fun X wx hG hX K hK => ?_) (.cons (some 174) rfl rfl (fun X wx hG hX K hK => ?_) (.cons (some 175) rfl rfl (fun X wx hG hX K hK => ?_) (.cons (some 176) rfl rfl (fun X wx hG hX K hK => ?_) (.cons (some 177) rfl rfl (fun X wx hG hX K hK => ?_) (.cons (some 178) rfl rfl (fun X wx hG hX K hK => ?_) (.cons (some 179) rfl rfl (fun X wx hG hX K hK => ?_) (.cons (some 6) rfl rfl (fun X wx hG hX K hK => ?_) .nil))))))))))))))))))))))))))))))))))))))))))))) (by kernel_rfl) #[true, true, true, true, true, true, true, true, true, true, true, true, true, true, true, true, true, true, true, true, true, true, true, true, true, true, true, true, true, true, true, true, true, true, true, true, true, true, true, true, true, true, true, true, true] (by kernel_rfl) ?_
          case hTR18a =>
            intro X
            simp only [fill, Act.put, List.setIfInBounds_toArray, List.set_cons_zero, List.set_cons_succ, Nat.zero_add, Nat.reduceAdd]
            rfl
          · refine val_ (w1 := wx) (v := .bool false) (by rfl) rfl ?_ (hK.out _ _ _ rfl (Below.refl _ _) rfl)
            go_simp
          · refine val_ (w1 := wx) (v := .int .i64 (-1)) (by rfl) rfl ?_ (hK.out _ _ _ rfl (Below.refl _ _) rfl)
            go_simp
          · have e1 : X 1 = .int .i64 (-1) := hX 1 1 (by kernel_rfl)
            refine val_ (w1 := wx) (v := .bool false) (by rfl) rfl ?_ (hK.out _ _ _ rfl (Below.refl _ _) rfl)
            go_simp
          · have e0 : X 0 = .bool false := hX 1 0 (by kernel_rfl)
            have e2 : X 2 = .bool false := hX 1 2 (by kernel_rfl)
            refine val_ (w1 := wx) (v := .bool true) (by rfl) rfl ?_ (hK.out _ _ _ rfl (Below.refl _ _) rfl)
            go_simp
          · have e3 : X 3 = .bool true := hX 1 3 (by kernel_rfl)
            refine val_ (w1 := wx) (v := .bool true) (by rfl) rfl ?_ (hK.out _ _ _ rfl (Below.refl _ _) rfl)
            go_simp
          · have e4 : X 4 = .bool true := hX 1 4 (by kernel_rfl)
            refine val_ (w1 := wx) (v := .bool false) (wanted_of rfl rfl (congrArg some e4)) rfl ?_ (hK.out _ _ _ rfl (Below.refl _ _) rfl)
            go_simp
          · have e4 : X 4 = .bool true := hX 1 4 (by kernel_rfl)
            have e5 : X 5 = .bool false := hX 1 5 (by kernel_rfl)
            refine val_ (w1 := wx) (v := .bool true) (wanted_of rfl rfl (congrArg some e4)) rfl ?_ (hK.out _ _ _ rfl (Below.refl _ _) rfl)
            go_simp
          · have e4 : X 4 = .bool true := hX 1 4 (by kernel_rfl)
            have e6 : X 6 = .bool true := hX 1 6 (by kernel_rfl)
            refine val_ (w1 := wx) (v := .bool true) (wanted_of rfl rfl (congrArg some e4)) rfl ?_ (hK.out _ _ _ rfl (Below.refl _ _) rfl)
            go_simp
          · have e7 : X 7 = .bool true := hX 1 7 (by kernel_rfl)
            have z0_ : wx.cell? ⟨gx, 0, none⟩ = some (.int .u32 0) := cell_later hG (show w19.drew.cell? ⟨gx, 0, none⟩ = _ from HZ.out.1)
            have z1_ : wx.cell? ⟨gx, 1, none⟩ = some (.int .i64 0) := cell_later hG (show w19.drew.cell? ⟨gx, 1, none⟩ = _ from HZ.out.2.1)
            have z2_ : wx.cell? ⟨gx, 2, none⟩ = some (.bool false) := cell_later hG (show w19.drew.cell? ⟨gx, 2, none⟩ = _ from HZ.out.2.2)
            refine val_ (w1 := wx) (v := .agg #[.int .u32 0, .int .i64 0, .bool false]) (wanted_of rfl rfl (congrArg some e7)) rfl ?_ (hK.out _ _ _ rfl (Below.refl _ _) rfl)
            go_simp
          · have e7 : X 7 = .bool true := hX 1 7 (by kernel_rfl)
            refine val_ (w1 := wx) (v := .agg #[.int .u32 0, .int .i64 0, .bool false]) (wanted_of rfl rfl (congrArg some e7)) rfl ?_ (hK.out _ _ _ rfl (Below.refl _ _) rfl)
            go_simp
          · have e7 : X 7 = .bool true := hX 1 7 (by kernel_rfl)
            have e8 : X 8 = .agg #[.int .u32 0, .int .i64 0, .bool false] := hX 1 8 (by kernel_rfl)
            have e9 : X 9 = .agg #[.int .u32 0, .int .i64 0, .bool false] := hX 1 9 (by kernel_rfl)
            refine val_ (w1 := wx) (v := .bool true) (wanted_of rfl rfl (congrArg some e7)) rfl ?_ (hK.out _ _ _ rfl (Below.refl _ _) rfl)
            go_simp
          · have e4 : X 4 = .bool true := hX 1 4 (by kernel_rfl)
            have e7 : X 7 = .bool true := hX 1 7 (by kernel_rfl)
            have e10 : X 10 = .bool true := hX 1 10 (by kernel_rfl)
            refine val_ (w1 := wx) (v := .bool true) (wanted_of rfl rfl (congrArg some e4)) rfl ?_ (hK.out _ _ _ rfl (Below.refl _ _) rfl)
            go_simp
          · have e4 : X 4 = .bool true := hX 1 4 (by kernel_rfl)
            have e11 : X 11 = .bool true := hX 1 11 (by kernel_rfl)
            refine val_ (w1 := wx) (v := .bool true) (wanted_of rfl rfl (congrArg some e4)) rfl ?_ (hK.out _ _ _ rfl (Below.refl _ _) rfl)
            go_simp
          · have e12 : X 12 = .bool true := hX 1 12 (by kernel_rfl)
            rw [if_neg (by rw [wanted_not rfl rfl (congrArg some e12)]; decide)]
            exact hK.out _ undef _ rfl (Below.refl _ _) rfl
          · have e12 : X 12 = .bool true := hX 1 12 (by kernel_rfl)
            rw [if_neg (by rw [wanted_not rfl rfl (congrArg some e12)]; decide)]
            exact hK.out _ undef _ rfl (Below.refl _ _) rfl
          · have e14 : X 14 = undef := hX 1 14 (by kernel_rfl)
            rw [if_neg (by rw [wanted_undef rfl rfl (congrArg some e14)]; decide)]
            exact hK.out _ undef _ rfl (Below.refl _ _) rfl
          · have e14 : X 14 = undef := hX 1 14 (by kernel_rfl)
            rw [if_neg (by rw [wanted_undef rfl rfl (congrArg some e14)]; decide)]
            exact hK.out _ undef _ rfl (Below.refl _ _) rfl
          · have e14 : X 14 = undef := hX 1 14 (by kernel_rfl)
            rw [if_neg (by rw [wanted_undef rfl rfl (congrArg some e14)]; decide)]
            exact hK.out _ undef _ rfl (Below.refl _ _) rfl
          · have e14 : X 14 = undef := hX 1 14 (by kernel_rfl)
            rw [if_neg (by rw [wanted_undef rfl rfl (congrArg some e14)]; decide)]
            exact hK.out _ undef _ rfl (Below.refl _ _) rfl
          · have e12 : X 12 = .bool true := hX 1 12 (by kernel_rfl)
            rw [if_neg (by rw [wanted_not rfl rfl (congrArg some e12)]; decide)]
            exact hK.out _ undef _ rfl (Below.refl _ _) rfl
          · have e12 : X 12 = .bool true := hX 1 12 (by kernel_rfl)
            rw [if_neg (by rw [wanted_not rfl rfl (congrArg some e12)]; decide)]
            exact hK.out _ undef _ rfl (Below.refl _ _) rfl
          · have e20 : X 20 = undef := hX 1 20 (by kernel_rfl)
            rw [if_neg (by rw [wanted_undef rfl rfl (congrArg some e20)]; decide)]
            exact hK.out _ undef _ rfl (Below.refl _ _) rfl
          · have e20 : X 20 = undef := hX 1 20 (by kernel_rfl)
            rw [if_neg (by rw [wanted_undef rfl rfl (congrArg some e20)]; decide)]
            exact hK.out _ undef _ rfl (Below.refl _ _) rfl
          · have e20 : X 20 = undef := hX 1 20 (by kernel_rfl)
            rw [if_neg (by rw [wanted_undef rfl rfl (congrArg some e20)]; decide)]
            exact hK.out _ undef _ rfl (Below.refl _ _) rfl
          · have e20 : X 20 = undef := hX 1 20 (by kernel_rfl)
            rw [if_neg (by rw [wanted_undef rfl rfl (congrArg some e20)]; decide)]
            exact hK.out _ undef _ rfl (Below.refl _ _) rfl
          · have e20 : X 20 = undef := hX 1 20 (by kernel_rfl)
            rw [if_neg (by rw [wanted_undef rfl rfl (congrArg some e20)]; decide)]
            exact hK.out _ undef _ rfl (Below.refl _ _) rfl
          · have e20 : X 20 = undef := hX 1 20 (by kernel_rfl)
            rw [if_neg (by rw [wanted_undef rfl rfl (congrArg some e20)]; decide)]
            exact hK.out _ undef _ rfl (Below.refl _ _) rfl
          · have e20 : X 20 = undef := hX 1 20 (by kernel_rfl)
            rw [if_neg (by rw [wanted_undef rfl rfl (congrArg some e20)]; decide)]
            exact hK.out _ undef _ rfl (Below.refl _ _) rfl
          · have e20 : X 20 = undef := hX 1 20 (by kernel_rfl)
            rw [if_neg (by rw [wanted_undef rfl rfl (congrArg some e20)]; decide)]
            exact hK.out _ undef _ rfl (Below.refl _ _) rfl
          · have e20 : X 20 = undef := hX 1 20 (by kernel_rfl)
            rw [if_neg (by rw [wanted_undef rfl rfl (congrArg some e20)]; decide)]
            exact hK.out _ undef _ rfl (Below.refl _ _) rfl
          · have e12 : X 12 = .bool true := hX 1 12 (by kernel_rfl)
            rw [if_neg (by rw [wanted_not rfl rfl (congrArg some e12)]; decide)]
            exact hK.out _ undef _ rfl (Below.refl _ _) rfl
          · have e12 : X 12 = .bool true := hX 1 12 (by kernel_rfl)
            rw [if_neg (by rw [wanted_not rfl rfl (congrArg some e12)]; decide)]
            exact hK.out _ undef _ rfl (Below.refl _ _) rfl
          · have e31 : X 31 = undef := hX 1 31 (by kernel_rfl)
            rw [if_neg (by rw [wanted_undef rfl rfl (congrArg some e31)]; decide)]
            exact hK.out _ undef _ rfl (Below.refl _ _) rfl
          · have e31 : X 31 = undef := hX 1 31 (by kernel_rfl)
            rw [if_neg (by rw [wanted_undef rfl rfl (congrArg some e31)]; decide)]
            exact hK.out _ undef _ rfl (Below.refl _ _) rfl
          · have e31 : X 31 = undef := hX 1 31 (by kernel_rfl)
            rw [if_neg (by rw [wanted_undef rfl rfl (congrArg some e31)]; decide)]
            exact hK.out _ undef _ rfl (Below.refl _ _) rfl
          · have e31 : X 31 = undef := hX 1 31 (by kernel_rfl)
            rw [if_neg (by rw [wanted_undef rfl rfl (congrArg some e31)]; decide)]
            exact hK.out _ undef _ rfl (Below.refl _ _) rfl
          · have e31 : X 31 = undef := hX 1 31 (by kernel_rfl)
            rw [if_neg (by rw [wanted_undef rfl rfl (congrArg some e31)]; decide)]
            exact hK.out _ undef _ rfl (Below.refl _ _) rfl
          · have e31 : X 31 = undef := hX 1 31 (by kernel_rfl)
            rw [if_neg (by rw [wanted_undef rfl rfl (congrArg some e31)]; decide)]
            exact hK.out _ undef _ rfl (Below.refl _ _) rfl
          · have e31 : X 31 = undef := hX 1 31 (by kernel_rfl)
            rw [if_neg (by rw [wanted_undef rfl rfl (congrArg some e31)]; decide)]
            exact hK.out _ undef _ rfl (Below.refl _ _) rfl
          · have e31 : X 31 = undef := hX 1 31 (by kernel_rfl)
            rw [if_neg (by rw [wanted_undef rfl rfl (congrArg some e31)]; decide)]
            exact hK.out _ undef _ rfl (Below.refl _ _) rfl
          · have e31 : X 31 = undef := hX 1 31 (by kernel_rfl)
            rw [if_neg (by rw [wanted_undef rfl rfl (congrArg some e31)]; decide)]
            exact hK.out _ undef _ rfl (Below.refl _ _) rfl
          · have e12 : X 12 = .bool true := hX 1 12 (by kernel_rfl)
            rw [if_neg (by rw [wanted_not rfl rfl (congrArg some e12)]; decide)]
            exact hK.out _ undef _ rfl (Below.refl _ _) rfl
          · have e4 : X 4 = .bool true := hX 1 4 (by kernel_rfl)
            have e12 : X 12 = .bool true := hX 1 12 (by kernel_rfl)
            have e41 : X 41 = undef := hX 1 41 (by kernel_rfl)
            refine val_ (w1 := wx) (v := .bool true) (wanted_of rfl rfl (congrArg some e4)) rfl ?_ (hK.out _ _ _ rfl (Below.refl _ _) rfl)
            go_simp
          · have e4 : X 4 = .bool true := hX 1 4 (by kernel_rfl)
            have e42 : X 42 = .bool true := hX 1 42 (by kernel_rfl)
            refine val_ (w1 := wx) (v := .bool true) (by rfl) rfl ?_ (hK.out _ _ _ rfl (Below.refl _ _) rfl)
            go_simp
          · have e43 : X 43 = .bool true := hX 1 43 (by kernel_rfl)
            refine val_ (w1 := wx) (v := .bool true) (by rfl) rfl ?_ (hK.out _ _ _ rfl (Below.refl _ _) rfl)
            go_simp
          intro X w20 hG hX
          refine tail_done (by kernel_rfl) ?_
          have e44 : X 44 = .bool true := hX 44 (by decide)
          rw [e44]
          clear hX e44
          go_wp2
          go_ret
          exact ⟨rfl, below_step HB.out (below_step HB3.out hG)⟩
        · subst h1 h2 h3
          obtain ⟨ad, eA, y0, y1, y2⟩ := v94_at HV.out i hi
          rw [hx] at y0 y1 y2
          subst eA
          obtain ⟨x, hxx⟩ : ∃ x, xe = x := ⟨_, rfl⟩
          have HZ : Aside0 (w19.cell? ⟨gx, 0, none⟩ = some (.int .u32 xe.f0) ∧ w19.cell? ⟨gx, 1, none⟩ = some (.int .i64 xe.f1) ∧ w19.cell? ⟨gx, 2, none⟩ = some (.bool xe.f2) ∧ w19.cell? ⟨g4, 0, none⟩ = some (.slice (some ad) l.length c) ∧ w19.cell? (ad.add (i * 3)) = some (.int .u32 xe.f0) ∧ w19.cell? ⟨(ad.add (i * 3)).block, (ad.add (i * 3)).off + 1, none⟩ = some (.int .i64 xe.f1) ∧ w19.cell? ⟨(ad.add (i * 3)).block, (ad.add (i * 3)).off + 2, none⟩ = some (.bool xe.f2)) :=
            ⟨(blk_cell RX.out 0).trans rfl, (blk_cell RX.out 1).trans rfl, (blk_cell RX.out 2).trans rfl, (blk_cell R4.out 0).trans rfl, y0, y1, y2⟩
          have hlti : (i : Int) < (l.length : Int) := Int.ofNat_lt.2 hi
          have h0i : decide (0 ≤ (i : Int)) = true := decide_eq_true (Int.natCast_nonneg i)
          clear y0 y1 y2 hx HOC HEC HV R4 RX
          subst hxx
          refine region_below (T := ?TR18b) (n := 0) [some 136, some 137, some 138, some 139, some 140, some 141, some 142, some 143, some 144, some 145, some 146, some 147, some 148, some 149, some 150, some 151, some 152, some 153, some 154, some 155, some 156, some 157, some 158, some 159, some 160, some 161, some 162, some 163, some 164, some 165, some 166, some 167, some 168, some 169, some 170, some 171, some 172, some 173, some 174, some 175, some 176, some 177, some 178, some 179, some 6] ?hTR18b (fun i_ v_ _ => v_ = R18b gx g4 c i ad l xe i_) (by kernel_rfl) (by kernel_rfl) (fun i_ v_ w_ w1_ _ h_ _ => h_) [0, 1, 2, 3, 4, 5, 6, 7, 8, 9, 10, 11, 12, 13, 14, 15, 16, 17, 18, 19, 20, 21, 22, 23, 24, 25, 26, 27, 28, 29, 30, 31, 32, 33, 34, 35, 36, 37, 38, 39, 40, 41, 42, 43, 44] rfl (.cons (some 136) rfl rfl (fun X wx hG hX K hK => ?_) (.cons (some 137) rfl rfl (fun X wx hG hX K hK => ?_) (.cons (some 138) rfl rfl (fun X wx hG hX K hK => ?_) (.cons (some 139) rfl rfl (fun X wx hG hX K hK => ?_) (.cons (some 140) rfl rfl (fun X wx hG hX K hK => ?_) (.cons (some 141) rfl rfl (fun X wx hG hX K hK => ?_) (.cons (some 142) rfl rfl (fun X wx hG hX K hK => ?_) (.cons (some 143) rfl rfl (fun X wx hG hX K hK => ?_) (.cons (some 144) rfl rfl (fun X wx hG hX K hK => ?_) (.cons (some 145) rfl rfl (fun X wx hG hX K hK => ?_) (.cons (some 146) rfl rfl (fun X wx hG hX K hK => ?_) (.cons (some 147) rfl rfl (fun X wx hG hX K hK => ?_) (.cons (some 148) rfl rfl (fun X wx hG hX K hK => ?_) (.cons (some 149) rfl rfl (fun X wx hG hX K hK => ?_) (.cons (some 150) rfl rfl (fun X wx hG hX K hK => ?_) (.cons (some 151) rfl rfl (fun X wx hG hX K hK => ?_) (.cons (some 152) rfl rfl (fun X wx hG hX K hK => ?_) (.cons (some 153) rfl rfl (fun X wx hG hX K hK => ?_) (.cons (some 154) rfl rfl (fun X wx hG hX K hK => ?_) (.cons (some 155) rfl rfl (fun X wx hG hX K hK => ?_) (.cons (some 156) rfl rfl (fun X wx hG hX K hK => ?_) (.cons (some 157) rfl rfl (fun X wx hG hX K hK => ?_) (.cons (some 158) rfl rfl (fun X wx hG hX K hK => ?_) (.cons (some 159) rfl rfl (fun X wx hG hX K hK => ?_) (.cons (some 160) rfl rfl (fun X wx hG hX K hK => ?_) (.cons (some 161) rfl rfl (fun X wx hG hX K hK => ?_) (.cons (some 162) rfl rfl (fun X wx hG hX K hK => ?_) (.cons (some 163) rfl rfl (fun X wx hG hX K hK => ?_) (.cons (some 164) rfl rfl (fun X wx hG hX K hK => ?_) (.cons (some 165) rfl rfl (fun X wx hG hX K hK => ?_) (.cons (some 166) rfl rfl (fun X wx hG hX K hK => ?_) (.cons (some 167) rfl rfl (fun X wx hG hX K hK => ?_) (.cons (some 168) rfl rfl (fun X wx hG hX K hK => ?_) (.cons (some 169) rfl rfl (fun X wx hG hX K hK => ?_) (.cons (some 170) rfl rfl (fun X wx hG hX K hK => ?_) (.cons (some 171) rfl rfl (fun X wx hG hX K hK => ?_) (.cons (some 172) rfl rfl (fun X wx hG hX K hK => ?_) (.cons (some 173) rfl rfl (fun X wx hG hX K hK => ?_) (.cons (some 174) rfl rfl (fun X wx hG hX K hK => ?_) (.cons (some 175) rfl rfl (fun X wx hG hX K hK => ?_) (.cons (some 176) rfl rfl (fun X wx hG hX K hK => ?_) (.cons (some 177) rfl rfl (fun X wx hG hX K hK => ?_) (.cons (some 178) rfl rfl (fun X wx hG hX K hK => ?_) (.cons (some 179) rfl rfl (fun X wx hG hX K hK => ?_) (.cons (some 6) rfl rfl (fun X wx hG hX K hK => ?_) .nil))))))))))))))))))))))))))))))))))))))))))))) (by kernel_rfl) #[true, true, true, true, true, true, true, true, true, true, true, true, true, true, true, true, true, true, true, true, true, true, true, true, true, true, true, true, true, true, true, true, true, true, true, true, true, true, true, true, true, true, true, true, true] (by kernel_rfl) ?_
          case hTR18b =>
            intro X
            simp only [fill, Act.put, List.setIfInBounds_toArray, List.set_cons_zero, List.set_cons_succ, Nat.zero_add, Nat.reduceAdd]
            rfl
          · refine val_ (w1 := wx) (v := .bool true) (by rfl) rfl ?_ (hK.out _ _ _ rfl (Below.refl _ _) rfl)
            go_simp
          · refine val_ (w1 := wx) (v := .int .i64 i) (by rfl) rfl ?_ (hK.out _ _ _ rfl (Below.refl _ _) rfl)
            go_simp
          · have e1 : X 1 = .int .i64 i := hX 1 1 (by kernel_rfl)
            refine val_ (w1 := wx) (v := .bool true) (by rfl) rfl ?_ (hK.out _ _ _ rfl (Below.refl _ _) rfl)
            go_simp
          · have e0 : X 0 = .bool true := hX 1 0 (by kernel_rfl)
            have e2 : X 2 = .bool true := hX 1 2 (by kernel_rfl)
            refine val_ (w1 := wx) (v := .bool true) (by rfl) rfl ?_ (hK.out _ _ _ rfl (Below.refl _ _) rfl)
            go_simp
          · have e3 : X 3 = .bool true := hX 1 3 (by kernel_rfl)
            refine val_ (w1 := wx) (v := .bool true) (by rfl) rfl ?_ (hK.out _ _ _ rfl (Below.refl _ _) rfl)
            go_simp
          · have e4 : X 4 = .bool true := hX 1 4 (by kernel_rfl)
            refine val_ (w1 := wx) (v := .bool true) (wanted_of rfl rfl (congrArg some e4)) rfl ?_ (hK.out _ _ _ rfl (Below.refl _ _) rfl)
            go_simp
          · have e4 : X 4 = .bool true := hX 1 4 (by kernel_rfl)
            have e5 : X 5 = .bool true := hX 1 5 (by kernel_rfl)
            refine val_ (w1 := wx) (v := .bool false) (wanted_of rfl rfl (congrArg some e4)) rfl ?_ (hK.out _ _ _ rfl (Below.refl _ _) rfl)
            go_simp
          · have e4 : X 4 = .bool true := hX 1 4 (by kernel_rfl)
            have e6 : X 6 = .bool false := hX 1 6 (by kernel_rfl)
            refine val_ (w1 := wx) (v := .bool false) (wanted_of rfl rfl (congrArg some e4)) rfl ?_ (hK.out _ _ _ rfl (Below.refl _ _) rfl)
            go_simp
          · have e7 : X 7 = .bool false := hX 1 7 (by kernel_rfl)
            rw [if_neg (by rw [wanted_not rfl rfl (congrArg some e7)]; decide)]
            exact hK.out _ undef _ rfl (Below.refl _ _) rfl
          · have e7 : X 7 = .bool false := hX 1 7 (by kernel_rfl)
            rw [if_neg (by rw [wanted_not rfl rfl (congrArg some e7)]; decide)]
            exact hK.out _ undef _ rfl (Below.refl _ _) rfl
          · have e7 : X 7 = .bool false := hX 1 7 (by kernel_rfl)
            rw [if_neg (by rw [wanted_not rfl rfl (congrArg some e7)]; decide)]
            exact hK.out _ undef _ rfl (Below.refl _ _) rfl
          · have e4 : X 4 = .bool true := hX 1 4 (by kernel_rfl)
            have e7 : X 7 = .bool false := hX 1 7 (by kernel_rfl)
            have e10 : X 10 = undef := hX 1 10 (by kernel_rfl)
            refine val_ (w1 := wx) (v := .bool false) (wanted_of rfl rfl (congrArg some e4)) rfl ?_ (hK.out _ _ _ rfl (Below.refl _ _) rfl)
            go_simp
          · have e4 : X 4 = .bool true := hX 1 4 (by kernel_rfl)
            have e11 : X 11 = .bool false := hX 1 11 (by kernel_rfl)
            refine val_ (w1 := wx) (v := .bool false) (wanted_of rfl rfl (congrArg some e4)) rfl ?_ (hK.out _ _ _ rfl (Below.refl _ _) rfl)
            go_simp
          · have e12 : X 12 = .bool false := hX 1 12 (by kernel_rfl)
            refine val_ (w1 := wx) (v := .bool true) (wanted_of rfl rfl (congrArg some e12)) rfl ?_ (hK.out _ _ _ rfl (Below.refl _ _) rfl)
            go_simp
          · have e12 : X 12 = .bool false := hX 1 12 (by kernel_rfl)
            have e13 : X 13 = .bool true := hX 1 13 (by kernel_rfl)
            refine val_ (w1 := wx) (v := .bool true) (wanted_of rfl rfl (congrArg some e12)) rfl ?_ (hK.out _ _ _ rfl (Below.refl _ _) rfl)
            go_simp
          · have e14 : X 14 = .bool true := hX 1 14 (by kernel_rfl)
            refine val_ (w1 := wx) (v := .pointer (some ⟨gx, 0, none⟩)) (wanted_of rfl rfl (congrArg some e14)) rfl ?_ (hK.out _ _ _ rfl (Below.refl _ _) rfl)
            go_simp
          · have e14 : X 14 = .bool true := hX 1 14 (by kernel_rfl)
            have e15 : X 15 = .pointer (some ⟨gx, 0, none⟩) := hX 1 15 (by kernel_rfl)
            have z0_ : wx.cell? ⟨gx, 0, none⟩ = some (.int .u32 xe.f0) := cell_later hG (show w19.drew.cell? ⟨gx, 0, none⟩ = _ from HZ.out.1)
            refine val_ (w1 := wx) (v := .int .u32 xe.f0) (wanted_of rfl rfl (congrArg some e14)) rfl ?_ (hK.out _ _ _ rfl (Below.refl _ _) rfl)
            go_simp
          · have e14 : X 14 = .bool true := hX 1 14 (by kernel_rfl)
            refine val_ (w1 := wx) (v := .int .u32 xe.f0) (wanted_of rfl rfl (congrArg some e14)) rfl ?_ (hK.out _ _ _ rfl (Below.refl _ _) rfl)
            go_simp
          · have e14 : X 14 = .bool true := hX 1 14 (by kernel_rfl)
            have e16 : X 16 = .int .u32 xe.f0 := hX 1 16 (by kernel_rfl)
            have e17 : X 17 = .int .u32 xe.f0 := hX 1 17 (by kernel_rfl)
            refine val_ (w1 := wx) (v := .bool true) (wanted_of rfl rfl (congrArg some e14)) rfl ?_ (hK.out _ _ _ rfl (Below.refl _ _) rfl)
            go_simp
          · have e12 : X 12 = .bool false := hX 1 12 (by kernel_rfl)
            have e14 : X 14 = .bool true := hX 1 14 (by kernel_rfl)
            have e18 : X 18 = .bool true := hX 1 18 (by kernel_rfl)
            refine val_ (w1 := wx) (v := .bool true) (wanted_of rfl rfl (congrArg some e12)) rfl ?_ (hK.out _ _ _ rfl (Below.refl _ _) rfl)
            go_simp
          · have e12 : X 12 = .bool false := hX 1 12 (by kernel_rfl)
            have e19 : X 19 = .bool true := hX 1 19 (by kernel_rfl)
            refine val_ (w1 := wx) (v := .bool true) (wanted_of rfl rfl (congrArg some e12)) rfl ?_ (hK.out _ _ _ rfl (Below.refl _ _) rfl)
            go_simp
          · have e20 : X 20 = .bool true := hX 1 20 (by kernel_rfl)
            refine val_ (w1 := wx) (v := .pointer (some ⟨gx, 1, none⟩)) (wanted_of rfl rfl (congrArg some e20)) rfl ?_ (hK.out _ _ _ rfl (Below.refl _ _) rfl)
            go_simp
          · have e20 : X 20 = .bool true := hX 1 20 (by kernel_rfl)
            have e21 : X 21 = .pointer (some ⟨gx, 1, none⟩) := hX 1 21 (by kernel_rfl)
            have z0_ : wx.cell? ⟨gx, 1, none⟩ = some (.int .i64 xe.f1) := cell_later hG (show w19.drew.cell? ⟨gx, 1, none⟩ = _ from HZ.out.2.1)
            refine val_ (w1 := wx) (v := .int .i64 xe.f1) (wanted_of rfl rfl (congrArg some e20)) rfl ?_ (hK.out _ _ _ rfl (Below.refl _ _) rfl)
            go_simp
          · have e20 : X 20 = .bool true := hX 1 20 (by kernel_rfl)
            refine val_ (w1 := wx) (v := .pointer (some ⟨g4, 0, none⟩)) (wanted_of rfl rfl (congrArg some e20)) rfl ?_ (hK.out _ _ _ rfl (Below.refl _ _) rfl)
            go_simp
          · have e20 : X 20 = .bool true := hX 1 20 (by kernel_rfl)
            have e23 : X 23 = .pointer (some ⟨g4, 0, none⟩) := hX 1 23 (by kernel_rfl)
            have z0_ : wx.cell? ⟨g4, 0, none⟩ = some (.slice (some ad) l.length c) := cell_later hG (show w19.drew.cell? ⟨g4, 0, none⟩ = _ from HZ.out.2.2.2.1)
            refine val_ (w1 := wx) (v := .slice (some ad) l.length c) (wanted_of rfl rfl (congrArg some e20)) rfl ?_ (hK.out _ _ _ rfl (Below.refl _ _) rfl)
            go_simp
          · have e20 : X 20 = .bool true := hX 1 20 (by kernel_rfl)
            refine val_ (w1 := wx) (v := .int .i64 i) (wanted_of rfl rfl (congrArg some e20)) rfl ?_ (hK.out _ _ _ rfl (Below.refl _ _) rfl)
            go_simp
          · have e20 : X 20 = .bool true := hX 1 20 (by kernel_rfl)
            have e24 : X 24 = .slice (some ad) l.length c := hX 1 24 (by kernel_rfl)
            have e25 : X 25 = .int .i64 i := hX 1 25 (by kernel_rfl)
            refine val_ (w1 := wx) (v := .pointer (some (ad.add (i * 3)))) (wanted_of rfl rfl (congrArg some e20)) rfl ?_ (hK.out _ _ _ rfl (Below.refl _ _) rfl)
            go_simp
          · have e20 : X 20 = .bool true := hX 1 20 (by kernel_rfl)
            have e26 : X 26 = .pointer (some (ad.add (i * 3))) := hX 1 26 (by kernel_rfl)
            refine val_ (w1 := wx) (v := .pointer (some ⟨(ad.add (i * 3)).block, (ad.add (i * 3)).off + 1, none⟩)) (wanted_of rfl rfl (congrArg some e20)) rfl ?_ (hK.out _ _ _ rfl (Below.refl _ _) rfl)
            go_simp
          · have e20 : X 20 = .bool true := hX 1 20 (by kernel_rfl)
            have e27 : X 27 = .pointer (some ⟨(ad.add (i * 3)).block, (ad.add (i * 3)).off + 1, none⟩) := hX 1 27 (by kernel_rfl)
            have z0_ : wx.cell? ⟨(ad.add (i * 3)).block, (ad.add (i * 3)).off + 1, none⟩ = some (.int .i64 xe.f1) := cell_later hG (show w19.drew.cell? ⟨(ad.add (i * 3)).block, (ad.add (i * 3)).off + 1, none⟩ = _ from HZ.out.2.2.2.2.2.1)
            refine val_ (w1 := wx) (v := .int .i64 xe.f1) (wanted_of rfl rfl (congrArg some e20)) rfl ?_ (hK.out _ _ _ rfl (Below.refl _ _) rfl)
            go_simp
          · have e20 : X 20 = .bool true := hX 1 20 (by kernel_rfl)
            have e22 : X 22 = .int .i64 xe.f1 := hX 1 22 (by kernel_rfl)
            have e28 : X 28 = .int .i64 xe.f1 := hX 1 28 (by kernel_rfl)
            refine val_ (w1 := wx) (v := .bool true) (wanted_of rfl rfl (congrArg some e20)) rfl ?_ (hK.out _ _ _ rfl (Below.refl _ _) rfl)
            go_simp
          · have e12 : X 12 = .bool false := hX 1 12 (by kernel_rfl)
            have e20 : X 20 = .bool true := hX 1 20 (by kernel_rfl)
            have e29 : X 29 = .bool true := hX 1 29 (by kernel_rfl)
            refine val_ (w1 := wx) (v := .bool true) (wanted_of rfl rfl (congrArg some e12)) rfl ?_ (hK.out _ _ _ rfl (Below.refl _ _) rfl)
            go_simp
          · have e12 : X 12 = .bool false := hX 1 12 (by kernel_rfl)
            have e30 : X 30 = .bool true := hX 1 30 (by kernel_rfl)
            refine val_ (w1 := wx) (v := .bool true) (wanted_of rfl rfl (congrArg some e12)) rfl ?_ (hK.out _ _ _ rfl (Below.refl _ _) rfl)
            go_simp
          · have e31 : X 31 = .bool true := hX 1 31 (by kernel_rfl)
            refine val_ (w1 := wx) (v := .pointer (some ⟨gx, 2, none⟩)) (wanted_of rfl rfl (congrArg some e31)) rfl ?_ (hK.out _ _ _ rfl (Below.refl _ _) rfl)
            go_simp
          · have e31 : X 31 = .bool true := hX 1 31 (by kernel_rfl)
            have e32 : X 32 = .pointer (some ⟨gx, 2, none⟩) := hX 1 32 (by kernel_rfl)
            have z0_ : wx.cell? ⟨gx, 2, none⟩ = some (.bool xe.f2) := cell_later hG (show w19.drew.cell? ⟨gx, 2, none⟩ = _ from HZ.out.2.2.1)
            refine val_ (w1 := wx) (v := .bool xe.f2) (wanted_of rfl rfl (congrArg some e31)) rfl ?_ (hK.out _ _ _ rfl (Below.refl _ _) rfl)
            go_simp
          · have e31 : X 31 = .bool true := hX 1 31 (by kernel_rfl)
            refine val_ (w1 := wx) (v := .pointer (some ⟨g4, 0, none⟩)) (wanted_of rfl rfl (congrArg some e31)) rfl ?_ (hK.out _ _ _ rfl (Below.refl _ _) rfl)
            go_simp
          · have e31 : X 31 = .bool true := hX 1 31 (by kernel_rfl)
            have e34 : X 34 = .pointer (some ⟨g4, 0, none⟩) := hX 1 34 (by kernel_rfl)
            have z0_ : wx.cell? ⟨g4, 0, none⟩ = some (.slice (some ad) l.length c) := cell_later hG (show w19.drew.cell? ⟨g4, 0, none⟩ = _ from HZ.out.2.2.2.1)
            refine val_ (w1 := wx) (v := .slice (some ad) l.length c) (wanted_of rfl rfl (congrArg some e31)) rfl ?_ (hK.out _ _ _ rfl (Below.refl _ _) rfl)
            go_simp
          · have e31 : X 31 = .bool true := hX 1 31 (by kernel_rfl)
            refine val_ (w1 := wx) (v := .int .i64 i) (wanted_of rfl rfl (congrArg some e31)) rfl ?_ (hK.out _ _ _ rfl (Below.refl _ _) rfl)
            go_simp
          · have e31 : X 31 = .bool true := hX 1 31 (by kernel_rfl)
            have e35 : X 35 = .slice (some ad) l.length c := hX 1 35 (by kernel_rfl)
            have e36 : X 36 = .int .i64 i := hX 1 36 (by kernel_rfl)
            refine val_ (w1 := wx) (v := .pointer (some (ad.add (i * 3)))) (wanted_of rfl rfl (congrArg some e31)) rfl ?_ (hK.out _ _ _ rfl (Below.refl _ _) rfl)
            go_simp
          · have e31 : X 31 = .bool true := hX 1 31 (by kernel_rfl)
            have e37 : X 37 = .pointer (some (ad.add (i * 3))) := hX 1 37 (by kernel_rfl)
            refine val_ (w1 := wx) (v := .pointer (some ⟨(ad.add (i * 3)).block, (ad.add (i * 3)).off + 2, none⟩)) (wanted_of rfl rfl (congrArg some e31)) rfl ?_ (hK.out _ _ _ rfl (Below.refl _ _) rfl)
            go_simp
          · have e31 : X 31 = .bool true := hX 1 31 (by kernel_rfl)
            have e38 : X 38 = .pointer (some ⟨(ad.add (i * 3)).block, (ad.add (i * 3)).off + 2, none⟩) := hX 1 38 (by kernel_rfl)
            have z0_ : wx.cell? ⟨(ad.add (i * 3)).block, (ad.add (i * 3)).off + 2, none⟩ = some (.bool xe.f2) := cell_later hG (show w19.drew.cell? ⟨(ad.add (i * 3)).block, (ad.add (i * 3)).off + 2, none⟩ = _ from HZ.out.2.2.2.2.2.2)
            refine val_ (w1 := wx) (v := .bool xe.f2) (wanted_of rfl rfl (congrArg some e31)) rfl ?_ (hK.out _ _ _ rfl (Below.refl _ _) rfl)
            go_simp
          · have e31 : X 31 = .bool true := hX 1 31 (by kernel_rfl)
            have e33 : X 33 = .bool xe.f2 := hX 1 33 (by kernel_rfl)
            have e39 : X 39 = .bool xe.f2 := hX 1 39 (by kernel_rfl)
            refine val_ (w1 := wx) (v := .bool true) (wanted_of rfl rfl (congrArg some e31)) rfl ?_ (hK.out _ _ _ rfl (Below.refl _ _) rfl)
            go_simp
          · have e12 : X 12 = .bool false := hX 1 12 (by kernel_rfl)
            have e31 : X 31 = .bool true := hX 1 31 (by kernel_rfl)
            have e40 : X 40 = .bool true := hX 1 40 (by kernel_rfl)
            refine val_ (w1 := wx) (v := .bool true) (wanted_of rfl rfl (congrArg some e12)) rfl ?_ (hK.out _ _ _ rfl (Below.refl _ _) rfl)
            go_simp
          · have e4 : X 4 = .bool true := hX 1 4 (by kernel_rfl)
            have e12 : X 12 = .bool false := hX 1 12 (by kernel_rfl)
            have e41 : X 41 = .bool true := hX 1 41 (by kernel_rfl)
            refine val_ (w1 := wx) (v := .bool true) (wanted_of rfl rfl (congrArg some e4)) rfl ?_ (hK.out _ _ _ rfl (Below.refl _ _) rfl)
            go_simp
          · have e4 : X 4 = .bool true := hX 1 4 (by kernel_rfl)
            have e42 : X 42 = .bool true := hX 1 42 (by kernel_rfl)
            refine val_ (w1 := wx) (v := .bool true) (by rfl) rfl ?_ (hK.out _ _ _ rfl (Below.refl _ _) rfl)
            go_simp
          · have e43 : X 43 = .bool true := hX 1 43 (by kernel_rfl)
            refine val_ (w1 := wx) (v := .bool true) (by rfl) rfl ?_ (hK.out _ _ _ rfl (Below.refl _ _) rfl)
            go_simp
          intro X w20 hG hX
          refine tail_done (by kernel_rfl) ?_
          have e44 : X 44 = .bool true := hX 44 (by decide)
          rw [e44]
          clear hX e44
          go_wp2
          go_ret
          exact ⟨rfl, below_step HB.out (below_step HB3.out hG)⟩
end Go.Proofs.Ytbifanoiailjoaa.MRatePlays
