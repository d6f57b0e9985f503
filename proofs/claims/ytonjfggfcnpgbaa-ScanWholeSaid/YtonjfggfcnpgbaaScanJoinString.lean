/- An act on a scanner and on the document's: what both are then, and that both answer alike where they stood alike. -/
import Derived.Test.YtonjfggfcnpgbaaScanActString
import Derived.Test.YtonjfggfcnpgbaaScanSame
import Derived.Test.YtonjfggfcnpgbaaScanCore
namespace Go.Proofs.Ytonjfggfcnpgbaa.MScanPlays
open Go.RowKit Go.Proofs.YtonjfggfcnpgbaaW.PrintWords Go.Proofs.YtonjfggfcnpgbaaW.PrintLast Go.Proofs.YtonjfggfcnpgbaaW.PrintMore Go.Proofs.Ytonjfggfcnpgbaa.Base
set_option linter.unusedVariables false
set_option linter.unusedSimpArgs false

set_option maxHeartbeats 4000000 in
theorem string_act_c (w0 w : World) (g : Nat) (l : List Int) (i : Nat) (e : Option Int) (lm : List Int) (im : Nat) (em : Option Int) (kind B : Int) (wd : ByteArray) (A : Option Addr) (c : Nat) (ws : List ByteArray) (least most : Int)
    (HI : BoxS 60 w0 w g l i e) (hB : Below w0.heap.size w0 w) (hb : Byt l) (hbm : Byt lm) (hi : i ≤ l.length) (him : im ≤ lm.length) (hl : l.length ≤ 1000000) (hlm : lm.length ≤ 1000000) (he : EOK e) (hem : EOK em)
    (hC : Kd.C Kd.string w A ws.length ws) (hc : ws.length ≤ c) (hoff : ∀ ad, A = some ad → 0 < ws.length → ad.block ≠ g) (hws : ws.length ≤ 1000) (hwz : ∀ x ∈ ws, x.size ≤ 1000) (hwd : wd.size ≤ 1000) (hkind : (IntKind.u64.wrap kind).tmod 9 ≠ 2 ∧ (IntKind.u64.wrap kind).tmod 9 ≠ 3) :
    Calls Try.prog 11 #[.pointer (some ⟨g, 0, none⟩), .agg #[.string (strOfNums lm), .int .i64 im, .int .i64 (en em)], .agg #[.int .i64 kind, .int .u8 B, .string wd, .slice A ws.length c, .int .i64 least, .int .i64 most]] w fun e_ w' => ∃ b,
      e_ = .returned (.tuple #[.agg #[.string (strOfNums lm), .int .i64 ((stepV ((IntKind.u64.wrap kind).tmod 9) B (bytesOf wd) ws least most lm im em).1 : Nat), .int .i64 (en (stepV ((IntKind.u64.wrap kind).tmod 9) B (bytesOf wd) ws least most lm im em).2)], .bool b]) ∧
      ((l = lm ∧ i = im ∧ e = em) → b = true) ∧ BoxS 60 w0 w' g l ((stepV ((IntKind.u64.wrap kind).tmod 9) B (bytesOf wd) ws least most l i e).1 : Nat) (stepV ((IntKind.u64.wrap kind).tmod 9) B (bytesOf wd) ws least most l i e).2 ∧ Below w0.heap.size w0 w' ∧ KeepBut w w' g none := by
  have hbd := (step_bd (B := B) (wd := bytesOf wd) (ws := ws) (least := least) (most := most) (e := e) ((IntKind.u64.wrap kind).tmod 9) hi).2.1
  have hbdm := (step_bd (B := B) (wd := bytesOf wd) (ws := ws) (least := least) (most := most) (e := em) ((IntKind.u64.wrap kind).tmod 9) him).2.1
  have hok := step_ok (B := B) (wd := bytesOf wd) (ws := ws) (least := least) (most := most) (l := l) (i := i) ((IntKind.u64.wrap kind).tmod 9) he
  have hokm := step_ok (B := B) (wd := bytesOf wd) (ws := ws) (least := least) (most := most) (l := lm) (i := im) ((IntKind.u64.wrap kind).tmod 9) hem
  have eqs0 : (l = lm ∧ i = im ∧ e = em) → stepV ((IntKind.u64.wrap kind).tmod 9) B (bytesOf wd) ws least most l i e = stepV ((IntKind.u64.wrap kind).tmod 9) B (bytesOf wd) ws least most lm im em := by
    rintro ⟨rfl, rfl, rfl⟩; rfl
  obtain ⟨⟨i', e'⟩, hs⟩ : ∃ x, stepV ((IntKind.u64.wrap kind).tmod 9) B (bytesOf wd) ws least most l i e = x := ⟨_, rfl⟩
  obtain ⟨⟨im', em'⟩, hsm⟩ : ∃ x, stepV ((IntKind.u64.wrap kind).tmod 9) B (bytesOf wd) ws least most lm im em = x := ⟨_, rfl⟩
  rw [hs] at hbd hok ⊢
  rw [hsm] at hbdm hokm ⊢
  dsimp only at hbd hok hbdm hokm ⊢
  have eqs : (l = lm ∧ i = im ∧ e = em) → (l = lm ∧ i' = im' ∧ e' = em') := fun q => by
    have h := eqs0 q
    rw [hs, hsm] at h
    injection h with h1 h2
    exact ⟨q.1, h1, h2⟩
  have S : ∀ W, BoxS 60 w0 W g l i' e' → Below w0.heap.size w0 W → Calls Try.prog 10 #[.pointer (some ⟨g, 0, none⟩), .agg #[.string (strOfNums lm), .int .i64 im', .int .i64 (en em')]] W fun e_ w' => ∃ b, e_ = .returned (.bool b) ∧ ((l = lm ∧ i = im ∧ e = em) → b = true) ∧ Below W.heap.size W w' := fun W h1 h2 =>
    (same_c w0 W g l i' e' lm im' em' h1 h2 hb hbm hbd hbdm hl hlm hok hokm).mono (fun _ _ ⟨b, h1, h2, h3⟩ => ⟨b, h1, fun m => h2 (eqs m).1 (eqs m).2.1 (eqs m).2.2, h3⟩)
  have hwl : (bytesOf wd).length ≤ 1000000 := by rw [bytesOf_length]; omega
  have hson := son_of wd
  by_cases h0 : (IntKind.u64.wrap kind).tmod 9 = 0
  · rw [h0, step_0] at hs hsm
    obtain ⟨e1, e2⟩ := Prod.mk.inj hs
    obtain ⟨m1, m2⟩ := Prod.mk.inj hsm
    obtain rfl := e2
    obtain rfl := m2
    have hr := rTake_is lm hbm im em B hem him (by omega)
    rw [← cast_if, m1] at hr
    refine (string_act w0 w g l i i' e e (strOfNums lm) im (en em) im' (en em) kind B wd A ws.length c least most (l = lm ∧ i = im ∧ e = em) HI hB (Or.inl ⟨h0, (comesV (leftV l i e) B), (comesV (leftV lm im em) B), ?_, ?_, fun q => by obtain ⟨rfl, rfl, rfl⟩ := q; rfl⟩) S).mono ?_
    · intro W _
      exact horologeref04_Take.calls _ _ _ _ _ _ _ _ W hr
    · intro W _ h1 h2
      have h := string_Take_c h1 h2 hb hi hl B
      rw [← cast_if, e1] at h
      exact h
    · rintro e_ w' ⟨b, rfl, hm, h1, h2, h3⟩
      exact ⟨b, rfl, hm, h1, h2, h3⟩
  by_cases h1 : (IntKind.u64.wrap kind).tmod 9 = 1
  · rw [h1, step_1] at hs hsm
    obtain ⟨e1, e2⟩ := Prod.mk.inj hs
    obtain ⟨m1, m2⟩ := Prod.mk.inj hsm
    obtain rfl := e2
    obtain rfl := m2
    obtain ⟨k, hr⟩ := Ev.ok (rFold_is lm hbm im em (bytesOf wd) (byt_of _) hem him hlm hwl)
    rw [← cast_if, m1, hson] at hr
    refine (string_act w0 w g l i i' e e (strOfNums lm) im (en em) im' (en em) kind B wd A ws.length c least most (l = lm ∧ i = im ∧ e = em) HI hB (Or.inr <| Or.inl ⟨h1, (foldV l i e (bytesOf wd)), (foldV lm im em (bytesOf wd)), ?_, ?_, fun q => by obtain ⟨rfl, rfl, rfl⟩ := q; rfl⟩) S).mono ?_
    · intro W _
      exact horologeref04_Fold.calls k _ _ _ _ _ _ _ _ W hr
    · intro W _ h1 h2
      have h := string_Fold_c h1 h2 hb hi hl wd
      rw [← cast_if, e1] at h
      exact h
    · rintro e_ w' ⟨b, rfl, hm, h1, h2, h3⟩
      exact ⟨b, rfl, hm, h1, h2, h3⟩
  obtain ⟨h2, h3⟩ := hkind
  by_cases h4 : (IntKind.u64.wrap kind).tmod 9 = 4
  · rw [h4, step_4] at hs hsm
    obtain ⟨e1, e2⟩ := Prod.mk.inj hs
    obtain ⟨m1, m2⟩ := Prod.mk.inj hsm
    have e1' : (sfigV l i e least most).2.1 = (i' : Int) := by have := sfig_bd (e := e) (least := least) (most := most) hi; omega
    have m1' : (sfigV lm im em least most).2.1 = (im' : Int) := by have := sfig_bd (e := em) (least := least) (most := most) him; omega
    obtain ⟨k, hr⟩ := Ev.ok (rFigures_is lm im em least most hem him hlm)
    rw [m1', m2] at hr
    refine (string_act w0 w g l i i' e e' (strOfNums lm) im (en em) im' (en em') kind B wd A ws.length c least most (l = lm ∧ i = im ∧ e = em) HI hB (Or.inr <| Or.inr <| Or.inl ⟨h4, (sfigV l i e least most).1, (sfigV lm im em least most).1, ?_, ?_, fun q => by obtain ⟨rfl, rfl, rfl⟩ := q; rfl⟩) S).mono ?_
    · intro W _
      exact horologeref04_Figures.calls k _ _ _ _ _ _ _ _ _ W hr
    · intro W _ h1 h2
      have h := string_Figures_c h1 h2 hb hi hl least most
      rw [e1', e2] at h
      exact h
    · rintro e_ w' ⟨b, rfl, hm, h1, h2, h3⟩
      exact ⟨b, rfl, hm, h1, h2, h3⟩
  by_cases h5 : (IntKind.u64.wrap kind).tmod 9 = 5
  · rw [h5, step_5] at hs hsm
    obtain ⟨e1, e2⟩ := Prod.mk.inj hs
    obtain ⟨m1, m2⟩ := Prod.mk.inj hsm
    obtain ⟨k, hr⟩ := Ev.ok (rFold_is lm hbm im em (bytesOf wd) (byt_of _) hem him hlm hwl)
    rw [← cast_if, m1, hson] at hr
    have HA : ∀ W, KeepBut w W g none → BoxS 60 w0 W g l i e → Below w0.heap.size w0 W → Calls Try.prog 19 #[.pointer (some ⟨g, 0, none⟩), .string wd] W fun e_ w' => e_ = .returned (.tuple #[]) ∧ BoxS 60 w0 w' g l i' e' ∧ Below w0.heap.size w0 w' ∧ KeepBut W w' g none := by
      intro W _ h1 h2
      have h := string_Must_c h1 h2 hb hi hl wd
      rw [← cast_if, e1, e2] at h
      exact h
    cases hf : foldV lm im em (bytesOf wd) with
    | true =>
      rw [hf] at hr m2
      simp only [if_true] at m2
      refine (string_act w0 w g l i i' e e' (strOfNums lm) im (en em) im' (en em') kind B wd A ws.length c least most (l = lm ∧ i = im ∧ e = em) HI hB (Or.inr <| Or.inr <| Or.inr <| Or.inl ⟨h5, ?_, HA⟩) S).mono ?_
      · intro W _
        rw [← m2]
        exact horologeref04_Fold.calls k _ _ _ _ _ _ _ _ W hr
      · rintro e_ w' ⟨b, rfl, hm, h1, h2, h3⟩
        exact ⟨b, rfl, hm, h1, h2, h3⟩
    | false =>
      rw [hf] at hr m2 m1
      simp only [Bool.false_eq_true, if_false] at m2 m1
      have hx := rFail_is lm im' em 2 hem
      have hx2 : (if em.isNone = true then (2 : Int) else en em) = en em' := by rw [← m2]; cases em <;> rfl
      rw [hx2] at hx
      refine (string_act w0 w g l i i' e e' (strOfNums lm) im (en em) im' (en em') kind B wd A ws.length c least most (l = lm ∧ i = im ∧ e = em) HI hB (Or.inr <| Or.inr <| Or.inr <| Or.inr <| Or.inl ⟨h5, im', en em, ?_, ?_, HA⟩) S).mono ?_
      · intro W _
        exact horologeref04_Fold.calls k _ _ _ _ _ _ _ _ W hr
      · intro W _
        exact horologeref04_Fail.calls _ _ _ _ _ _ _ W hx
      · rintro e_ w' ⟨b, rfl, hm, h1, h2, h3⟩
        exact ⟨b, rfl, hm, h1, h2, h3⟩
  by_cases h6 : (IntKind.u64.wrap kind).tmod 9 = 6
  · rw [h6, step_6] at hs hsm
    obtain ⟨k, hr⟩ := Ev.ok (rWord_is lm hbm im em hem him hlm ws hws hwz)
    rw [hsm] at hr
    refine (string_act w0 w g l i i' e e' (strOfNums lm) im (en em) im' (en em') kind B wd A ws.length c least most (l = lm ∧ i = im ∧ e = em) HI hB (Or.inr <| Or.inr <| Or.inr <| Or.inr <| Or.inr <| Or.inl ⟨h6, (wordV l i e ws 0).1, (wordV lm im em ws 0).1, ?_, ?_, fun q => by obtain ⟨rfl, rfl, rfl⟩ := q; rfl⟩) S).mono ?_
    · intro W hk
      exact horologeref04_Word.calls k _ _ _ A c ws _ _ _ _ W (C_keep hC hk hoff) hc hr
    · intro W hk h1 h2
      have h := string_Word_c h1 h2 hb hi hl A c ws hws (C_keep hC hk hoff) hc hoff
      rw [hs] at h
      exact h
    · rintro e_ w' ⟨b, rfl, hm, h1, h2, h3⟩
      exact ⟨b, rfl, hm, h1, h2, h3⟩
  by_cases h7 : (IntKind.u64.wrap kind).tmod 9 = 7
  · rw [h7, step_7] at hs hsm
    have hr := rSkip_is lm im em most hem him hlm
    rw [hsm] at hr
    refine (string_act w0 w g l i i' e e' (strOfNums lm) im (en em) im' (en em') kind B wd A ws.length c least most (l = lm ∧ i = im ∧ e = em) HI hB (Or.inr <| Or.inr <| Or.inr <| Or.inr <| Or.inr <| Or.inr <| Or.inl ⟨h7, ?_, ?_⟩) S).mono ?_
    · intro W _
      exact horologeref04_Skip.calls _ _ _ _ _ _ _ W hr
    · intro W _ h1 h2
      have h := string_Skip_c h1 h2 hi hl most
      rw [hs] at h
      exact h
    · rintro e_ w' ⟨b, rfl, hm, h1, h2, h3⟩
      exact ⟨b, rfl, hm, h1, h2, h3⟩
  have hn : (IntKind.u64.wrap kind).tmod 9 ≠ 0 ∧ (IntKind.u64.wrap kind).tmod 9 ≠ 1 ∧ (IntKind.u64.wrap kind).tmod 9 ≠ 2 ∧ (IntKind.u64.wrap kind).tmod 9 ≠ 3 ∧ (IntKind.u64.wrap kind).tmod 9 ≠ 4 ∧ (IntKind.u64.wrap kind).tmod 9 ≠ 5 ∧ (IntKind.u64.wrap kind).tmod 9 ≠ 6 ∧ (IntKind.u64.wrap kind).tmod 9 ≠ 7 := ⟨h0, h1, h2, h3, h4, h5, h6, h7⟩
  rw [step_8 hn] at hs hsm
  obtain ⟨e1, e2⟩ := Prod.mk.inj hs
  obtain ⟨m1, m2⟩ := Prod.mk.inj hsm
  obtain rfl := e1
  obtain rfl := m1
  have hx := rFail_is lm im em 11 hem
  have hx2 : (if em.isNone = true then (11 : Int) else en em) = en em' := by rw [← m2]; cases em <;> rfl
  rw [hx2] at hx
  refine (string_act w0 w g l i i e e' (strOfNums lm) im (en em) im (en em') kind B wd A ws.length c least most (l = lm ∧ i = im ∧ e = em) HI hB (Or.inr <| Or.inr <| Or.inr <| Or.inr <| Or.inr <| Or.inr <| Or.inr ⟨hn, ?_, ?_⟩) S).mono ?_
  · intro W _
    exact horologeref04_Fail.calls _ _ _ _ _ _ _ W hx
  · intro W _ h1 h2
    have h := string_Fail_c h1 h2 11
    rw [e2] at h
    exact h
  · rintro e_ w' ⟨b, rfl, hm, h1, h2, h3⟩
    exact ⟨b, rfl, hm, h1, h2, h3⟩
end Go.Proofs.Ytonjfggfcnpgbaa.MScanPlays
