import Derived.Test.YtonjfggfcnpgbaaScanActs
import Derived.Test.YtonjfggfcnpgbaaScanSame
import Derived.Test.YtonjfggfcnpgbaaScanCore
import Derived.Test.YtonjfggfcnpgbaaScanSameB
/- An act on a scanner and on the document's: what both are then, and that both answer alike where they stood alike. -/
namespace Go.Proofs.Ytonjfggfcnpgbaa.MScanPlays
open Go.RowKit Go.Proofs.YtonjfggfcnpgbaaW.PrintWords Go.Proofs.YtonjfggfcnpgbaaW.PrintLast Go.Proofs.YtonjfggfcnpgbaaW.PrintMore Go.Proofs.Ytonjfggfcnpgbaa.Base
set_option linter.unusedVariables false
set_option linter.unusedSimpArgs false

set_option maxHeartbeats 4000000 in
theorem string_act_c (w0 w : World) (g : Nat) (l : List Int) (i : Nat) (e : Option Int) (lm : List Int) (im : Nat) (em : Option Int) (kind B : Int) (wd : ByteArray) (A : Option Addr) (c : Nat) (ws : List ByteArray) (least most : Int)
    (HI : BoxS 60 w0 w g l i e) (hB : Below w0.heap.size w0 w) (hb : Byt l) (hbm : Byt lm) (hi : i ≤ l.length) (him : im ≤ lm.length) (hl : l.length ≤ 1000000) (hlm : lm.length ≤ 1000000) (he : EOK e) (hem : EOK em)
    (hC : Kd.C Kd.string w A ws.length ws) (hc : ws.length ≤ c) (hoff : ∀ ad, A = some ad → 0 < ws.length → ad.block ≠ g) (hws : ws.length ≤ 1000) (hwz : ∀ x ∈ ws, x.size ≤ 1000) (hwd : wd.size ≤ 1000) (hkind : 0 ≤ B ∧ B ≤ 255) :
    Calls Try.prog 11 #[.pointer (some ⟨g, 0, none⟩), .agg #[.string (strOfNums lm), .int .i64 im, .int .i64 (en em)], .agg #[.int .i64 kind, .int .u8 B, .string wd, .slice A ws.length c, .int .i64 least, .int .i64 most]] w fun e_ w' => ∃ b,
      e_ = .returned (.tuple #[.agg #[.string (strOfNums lm), .int .i64 ((stepV ((IntKind.u64.wrap kind).tmod 9) B (bytesOf wd) ws least most lm im em).1 : Nat), .int .i64 (en (stepV ((IntKind.u64.wrap kind).tmod 9) B (bytesOf wd) ws least most lm im em).2)], .bool b]) ∧
      ((l = lm ∧ i = im ∧ e = em) → b = true) ∧ BoxS 60 w0 w' g l ((stepV ((IntKind.u64.wrap kind).tmod 9) B (bytesOf wd) ws least most l i e).1 : Nat) (stepV ((IntKind.u64.wrap kind).tmod 9) B (bytesOf wd) ws least most l i e).2 ∧ Below w0.heap.size w0 w' ∧ KeepBut w w' g none := by
  have hbd := (step_bd (B := B) (wd := bytesOf wd) (ws := ws) (least := least) (most := most) (e := e) ((IntKind.u64.wrap kind).tmod 9) hi).2.1
  have hbdm := (step_bd (B := B) (wd := bytesOf wd) (ws := ws) (least := least) (most := most) (e := em) ((IntKind.u64.wrap kind).tmod 9) him).2.1
  have hok := step_ok (B := B) (wd := bytesOf wd) (ws := ws) (least := least) (most := most) (l := l) (i := i) ((IntKind.u64.wrap kind).tmod 9) he
  have hokm := step_ok (B := B) (wd := bytesOf wd) (ws := ws) (least := least) (most := most) (l := lm) (i := im) ((IntKind.u64.wrap kind).tmod 9) hem
  have eqs0 : (l = lm ∧ i = im ∧ e = em) → stepV ((IntKind.u64.wrap kind).tmod 9) B (bytesOf wd) ws least most l i e = stepV ((IntKind.u64.wrap kind).tmod 9) B (bytesOf wd) ws least most lm im em := by
    rintro ⟨rfl, rfl, rfl⟩; rfl
  obtain ⟨⟨i', e'⟩, hs⟩ : ∃ x, stepV ((IntKind.u64.wrap kind).tmod 9) B (bytesOf wd) ws least most l i e = x := ⟨_, rfl⟩
  obtain ⟨⟨im', em'⟩, hsm⟩ : ∃ x, stepV ((IntKind.u64.wrap kind).tmod 9) B (bytesOf wd) ws least most lm im em = x := ⟨_, rfl⟩
  rw [hs] at hbd hok ⊢
  rw [hsm] at hbdm hokm ⊢
  dsimp only at hbd hok hbdm hokm ⊢
  have eqs : (l = lm ∧ i = im ∧ e = em) → (l = lm ∧ i' = im' ∧ e' = em') := fun q => by
    have h := eqs0 q
    rw [hs, hsm] at h
    injection h with h1 h2
    exact ⟨q.1, h1, h2⟩
  have S : ∀ W, BoxS 60 w0 W g l i' e' → Below w0.heap.size w0 W → Calls Try.prog 10 #[.pointer (some ⟨g, 0, none⟩), .agg #[.string (strOfNums lm), .int .i64 im', .int .i64 (en em')]] W fun e_ w' => ∃ b, e_ = .returned (.bool b) ∧ ((l = lm ∧ i = im ∧ e = em) → b = true) ∧ Below W.heap.size W w' := fun W h1 h2 =>
    (same_c w0 W g l i' e' lm im' em' h1 h2 hb hbm hbd hbdm hl hlm hok hokm).mono (fun _ _ ⟨b, h1, h2, h3⟩ => ⟨b, h1, fun m => h2 (eqs m).1 (eqs m).2.1 (eqs m).2.2, h3⟩)
  have hwl : (bytesOf wd).length ≤ 1000000 := by rw [bytesOf_length]; omega
  have hson := son_of wd
  by_cases h0 : (IntKind.u64.wrap kind).tmod 9 = 0
  · rw [h0, step_0] at hs hsm
    obtain ⟨e1, e2⟩ := Prod.mk.inj hs
    obtain ⟨m1, m2⟩ := Prod.mk.inj hsm
    obtain rfl := e2
    obtain rfl := m2
    have hr := rTake_is lm hbm im em B hem him (by omega)
    rw [← cast_if, m1] at hr
    refine (string_act 60 w0 w g l i i' e e (strOfNums lm) im (en em) im' (en em) kind B wd A ws.length c least most (l = lm ∧ i = im ∧ e = em) HI hB (Or.inl ⟨h0, (comesV (leftV l i e) B), (comesV (leftV lm im em) B), ?_, ?_, fun q => by obtain ⟨rfl, rfl, rfl⟩ := q; rfl⟩) S).mono ?_
    · intro W _
      exact r4_Take.calls _ _ _ _ _ _ _ _ W hr
    · intro W _ h1 h2
      have h := string_Take_c h1 h2 hb hi hl B
      rw [← cast_if, e1] at h
      exact h
    · rintro e_ w' ⟨b, rfl, hm, h1, h2, h3⟩
      exact ⟨b, rfl, hm, h1, h2, h3⟩
  by_cases h1 : (IntKind.u64.wrap kind).tmod 9 = 1
  · rw [h1, step_1] at hs hsm
    obtain ⟨e1, e2⟩ := Prod.mk.inj hs
    obtain ⟨m1, m2⟩ := Prod.mk.inj hsm
    obtain rfl := e2
    obtain rfl := m2
    obtain ⟨k, hr⟩ := Ev.ok (rFold_is lm hbm im em (bytesOf wd) (byt_of _) hem him hlm hwl)
    rw [← cast_if, m1, hson] at hr
    refine (string_act 60 w0 w g l i i' e e (strOfNums lm) im (en em) im' (en em) kind B wd A ws.length c least most (l = lm ∧ i = im ∧ e = em) HI hB (Or.inr <| Or.inl ⟨h1, (foldV l i e (bytesOf wd)), (foldV lm im em (bytesOf wd)), ?_, ?_, fun q => by obtain ⟨rfl, rfl, rfl⟩ := q; rfl⟩) S).mono ?_
    · intro W _
      exact r4_Fold.calls k _ _ _ _ _ _ _ _ W hr
    · intro W _ h1 h2
      have h := string_Fold_c h1 h2 hb hi hl wd
      rw [← cast_if, e1] at h
      exact h
    · rintro e_ w' ⟨b, rfl, hm, h1, h2, h3⟩
      exact ⟨b, rfl, hm, h1, h2, h3⟩
  by_cases h2 : (IntKind.u64.wrap kind).tmod 9 = 2
  · rw [h2, step_2] at hs hsm
    obtain ⟨e1, e2⟩ := Prod.mk.inj hs
    obtain ⟨m1, m2⟩ := Prod.mk.inj hsm
    obtain rfl := e2
    obtain rfl := m2
    obtain ⟨k, hr⟩ := Ev.ok (rRun_is lm hbm im em (bytesOf wd) (byt_of _) hem him hlm hwl)
    rw [m1, hson] at hr
    refine (string_act 60 w0 w g l i i' e e (strOfNums lm) im (en em) im' (en em) kind B wd A ws.length c least most (l = lm ∧ i = im ∧ e = em) HI hB (Or.inr <| Or.inr <| Or.inl ⟨h2, (strOfNums ((leftV l i e).takeWhile (fun x => decide (x ∈ bytesOf wd)))), (strOfNums ((leftV lm im em).takeWhile (fun x => decide (x ∈ bytesOf wd)))), ?_, ?_, fun q => by obtain ⟨rfl, rfl, rfl⟩ := q; rfl⟩) S).mono ?_
    · intro W _
      exact r4_Run.calls k _ _ _ _ _ _ _ _ W hr
    · intro W _ h1 h2
      have h := string_Run_c h1 h2 hb hi hl wd
      rw [e1] at h
      exact h
    · rintro e_ w' ⟨b, rfl, hm, h1, h2, h3⟩
      exact ⟨b, rfl, hm, h1, h2, h3⟩
  by_cases h3 : (IntKind.u64.wrap kind).tmod 9 = 3
  · rw [h3, step_3] at hs hsm
    obtain ⟨e1, e2⟩ := Prod.mk.inj hs
    obtain ⟨m1, m2⟩ := Prod.mk.inj hsm
    obtain rfl := e2
    obtain rfl := m2
    obtain ⟨k, hr⟩ := Ev.ok (rUntil_is lm hbm im em B hem him hlm)
    rw [m1] at hr
    refine (string_act 60 w0 w g l i i' e e (strOfNums lm) im (en em) im' (en em) kind B wd A ws.length c least most (l = lm ∧ i = im ∧ e = em) HI hB (Or.inr <| Or.inr <| Or.inr <| Or.inl ⟨h3, (strOfNums ((leftV l i e).takeWhile (fun x => x != B))), (strOfNums ((leftV lm im em).takeWhile (fun x => x != B))), ?_, ?_, fun q => by obtain ⟨rfl, rfl, rfl⟩ := q; rfl⟩) S).mono ?_
    · intro W _
      exact r4_Until.calls k _ _ _ _ _ _ _ _ W hr
    · intro W _ h1 h2
      have h := string_Until_c h1 h2 hb hi hl B hkind
      rw [e1] at h
      exact h
    · rintro e_ w' ⟨b, rfl, hm, h1, h2, h3⟩
      exact ⟨b, rfl, hm, h1, h2, h3⟩
  by_cases h4 : (IntKind.u64.wrap kind).tmod 9 = 4
  · rw [h4, step_4] at hs hsm
    obtain ⟨e1, e2⟩ := Prod.mk.inj hs
    obtain ⟨m1, m2⟩ := Prod.mk.inj hsm
    have e1' : (sfigV l i e least most).2.1 = (i' : Int) := by have := sfig_bd (e := e) (least := least) (most := most) hi; omega
    have m1' : (sfigV lm im em least most).2.1 = (im' : Int) := by have := sfig_bd (e := em) (least := least) (most := most) him; omega
    obtain ⟨k, hr⟩ := Ev.ok (rFigures_is lm im em least most hem him hlm)
    rw [m1', m2] at hr
    refine (string_act 60 w0 w g l i i' e e' (strOfNums lm) im (en em) im' (en em') kind B wd A ws.length c least most (l = lm ∧ i = im ∧ e = em) HI hB (Or.inr <| Or.inr <| Or.inr <| Or.inr <| Or.inl ⟨h4, (sfigV l i e least most).1, (sfigV lm im em least most).1, ?_, ?_, fun q => by obtain ⟨rfl, rfl, rfl⟩ := q; rfl⟩) S).mono ?_
    · intro W _
      exact r4_Figures.calls k _ _ _ _ _ _ _ _ _ W hr
    · intro W _ h1 h2
      have h := string_Figures_c h1 h2 hb hi hl least most
      rw [e1', e2] at h
      exact h
    · rintro e_ w' ⟨b, rfl, hm, h1, h2, h3⟩
      exact ⟨b, rfl, hm, h1, h2, h3⟩
  by_cases h5 : (IntKind.u64.wrap kind).tmod 9 = 5
  · rw [h5, step_5] at hs hsm
    obtain ⟨e1, e2⟩ := Prod.mk.inj hs
    obtain ⟨m1, m2⟩ := Prod.mk.inj hsm
    obtain ⟨k, hr⟩ := Ev.ok (rFold_is lm hbm im em (bytesOf wd) (byt_of _) hem him hlm hwl)
    rw [← cast_if, m1, hson] at hr
    have HA : ∀ W, KeepBut w W g none → BoxS 60 w0 W g l i e → Below w0.heap.size w0 W → Calls Try.prog 19 #[.pointer (some ⟨g, 0, none⟩), .string wd] W fun e_ w' => e_ = .returned (.tuple #[]) ∧ BoxS 60 w0 w' g l i' e' ∧ Below w0.heap.size w0 w' ∧ KeepBut W w' g none := by
      intro W _ h1 h2
      have h := string_Must_c h1 h2 hb hi hl wd
      rw [← cast_if, e1, e2] at h
      exact h
    cases hf : foldV lm im em (bytesOf wd) with
    | true =>
      rw [hf] at hr m2
      simp only [if_true] at m2
      refine (string_act 60 w0 w g l i i' e e' (strOfNums lm) im (en em) im' (en em') kind B wd A ws.length c least most (l = lm ∧ i = im ∧ e = em) HI hB (Or.inr <| Or.inr <| Or.inr <| Or.inr <| Or.inr <| Or.inl ⟨h5, ?_, HA⟩) S).mono ?_
      · intro W _
        rw [← m2]
        exact r4_Fold.calls k _ _ _ _ _ _ _ _ W hr
      · rintro e_ w' ⟨b, rfl, hm, h1, h2, h3⟩
        exact ⟨b, rfl, hm, h1, h2, h3⟩
    | false =>
      rw [hf] at hr m2 m1
      simp only [Bool.false_eq_true, if_false] at m2 m1
      have hx := rFail_is lm im' em 2 hem
      have hx2 : (if em.isNone = true then (2 : Int) else en em) = en em' := by rw [← m2]; cases em <;> rfl
      rw [hx2] at hx
      refine (string_act 60 w0 w g l i i' e e' (strOfNums lm) im (en em) im' (en em') kind B wd A ws.length c least most (l = lm ∧ i = im ∧ e = em) HI hB (Or.inr <| Or.inr <| Or.inr <| Or.inr <| Or.inr <| Or.inr <| Or.inl ⟨h5, im', en em, ?_, ?_, HA⟩) S).mono ?_
      · intro W _
        exact r4_Fold.calls k _ _ _ _ _ _ _ _ W hr
      · intro W _
        exact r4_Fail.calls _ _ _ _ _ _ _ W hx
      · rintro e_ w' ⟨b, rfl, hm, h1, h2, h3⟩
        exact ⟨b, rfl, hm, h1, h2, h3⟩
  by_cases h6 : (IntKind.u64.wrap kind).tmod 9 = 6
  · rw [h6, step_6] at hs hsm
    obtain ⟨k, hr⟩ := Ev.ok (rWord_is lm hbm im em hem him hlm ws hws hwz)
    rw [hsm] at hr
    refine (string_act 60 w0 w g l i i' e e' (strOfNums lm) im (en em) im' (en em') kind B wd A ws.length c least most (l = lm ∧ i = im ∧ e = em) HI hB (Or.inr <| Or.inr <| Or.inr <| Or.inr <| Or.inr <| Or.inr <| Or.inr <| Or.inl ⟨h6, (wordV l i e ws 0).1, (wordV lm im em ws 0).1, ?_, ?_, fun q => by obtain ⟨rfl, rfl, rfl⟩ := q; rfl⟩) S).mono ?_
    · intro W hk
      exact r4_Word.calls k _ _ _ A c ws _ _ _ _ W (C_keep hC hk hoff) hc hr
    · intro W hk h1 h2
      have h := string_Word_c h1 h2 hb hi hl A c ws hws (C_keep hC hk hoff) hc hoff
      rw [hs] at h
      exact h
    · rintro e_ w' ⟨b, rfl, hm, h1, h2, h3⟩
      exact ⟨b, rfl, hm, h1, h2, h3⟩
  by_cases h7 : (IntKind.u64.wrap kind).tmod 9 = 7
  · rw [h7, step_7] at hs hsm
    have hr := rSkip_is lm im em most hem him hlm
    rw [hsm] at hr
    refine (string_act 60 w0 w g l i i' e e' (strOfNums lm) im (en em) im' (en em') kind B wd A ws.length c least most (l = lm ∧ i = im ∧ e = em) HI hB (Or.inr <| Or.inr <| Or.inr <| Or.inr <| Or.inr <| Or.inr <| Or.inr <| Or.inr <| Or.inl ⟨h7, ?_, ?_⟩) S).mono ?_
    · intro W _
      exact r4_Skip.calls _ _ _ _ _ _ _ W hr
    · intro W _ h1 h2
      have h := string_Skip_c h1 h2 hi hl most
      rw [hs] at h
      exact h
    · rintro e_ w' ⟨b, rfl, hm, h1, h2, h3⟩
      exact ⟨b, rfl, hm, h1, h2, h3⟩
  have hn : (IntKind.u64.wrap kind).tmod 9 ≠ 0 ∧ (IntKind.u64.wrap kind).tmod 9 ≠ 1 ∧ (IntKind.u64.wrap kind).tmod 9 ≠ 2 ∧ (IntKind.u64.wrap kind).tmod 9 ≠ 3 ∧ (IntKind.u64.wrap kind).tmod 9 ≠ 4 ∧ (IntKind.u64.wrap kind).tmod 9 ≠ 5 ∧ (IntKind.u64.wrap kind).tmod 9 ≠ 6 ∧ (IntKind.u64.wrap kind).tmod 9 ≠ 7 := ⟨h0, h1, h2, h3, h4, h5, h6, h7⟩
  rw [step_8 hn] at hs hsm
  obtain ⟨e1, e2⟩ := Prod.mk.inj hs
  obtain ⟨m1, m2⟩ := Prod.mk.inj hsm
  obtain rfl := e1
  obtain rfl := m1
  have hx := rFail_is lm im em 11 hem
  have hx2 : (if em.isNone = true then (11 : Int) else en em) = en em' := by rw [← m2]; cases em <;> rfl
  rw [hx2] at hx
  refine (string_act 60 w0 w g l i i e e' (strOfNums lm) im (en em) im (en em') kind B wd A ws.length c least most (l = lm ∧ i = im ∧ e = em) HI hB (Or.inr <| Or.inr <| Or.inr <| Or.inr <| Or.inr <| Or.inr <| Or.inr <| Or.inr <| Or.inr ⟨hn, ?_, ?_⟩) S).mono ?_
  · intro W _
    exact r4_Fail.calls _ _ _ _ _ _ _ W hx
  · intro W _ h1 h2
    have h := string_Fail_c h1 h2 11
    rw [e2] at h
    exact h
  · rintro e_ w' ⟨b, rfl, hm, h1, h2, h3⟩
    exact ⟨b, rfl, hm, h1, h2, h3⟩
end Go.Proofs.Ytonjfggfcnpgbaa.MScanPlays

/- An act on a scanner and on the document's: what both are then, and that both answer alike where they stood alike. -/
namespace Go.Proofs.Ytonjfggfcnpgbaa.MScanPlays
open Go.RowKit Go.Proofs.YtonjfggfcnpgbaaW.PrintWords Go.Proofs.YtonjfggfcnpgbaaW.PrintLast Go.Proofs.YtonjfggfcnpgbaaW.PrintMore Go.Proofs.Ytonjfggfcnpgbaa.Base
set_option linter.unusedVariables false
set_option linter.unusedSimpArgs false

set_option maxHeartbeats 4000000 in
theorem byte_act_c (w0 w : World) (g : Nat) (l : List Int) (i : Nat) (e : Option Int) (lm : List Int) (im : Nat) (em : Option Int) (kind B : Int) (wd : ByteArray) (A : Option Addr) (c : Nat) (ws : List ByteArray) (least most : Int)
    (HI : BoxS 61 w0 w g l i e) (hB : Below w0.heap.size w0 w) (hb : Byt l) (hbm : Byt lm) (hi : i ≤ l.length) (him : im ≤ lm.length) (hl : l.length ≤ 1000000) (hlm : lm.length ≤ 1000000) (he : EOK e) (hem : EOK em)
    (hC : Kd.C Kd.string w A ws.length ws) (hc : ws.length ≤ c) (hoff : ∀ ad, A = some ad → 0 < ws.length → ad.block ≠ g) (hws : ws.length ≤ 1000) (hwz : ∀ x ∈ ws, x.size ≤ 1000) (hwd : wd.size ≤ 1000) (hkind : 0 ≤ B ∧ B ≤ 255) :
    Calls Try.prog 12 #[.pointer (some ⟨g, 0, none⟩), .agg #[.string (strOfNums lm), .int .i64 im, .int .i64 (en em)], .agg #[.int .i64 kind, .int .u8 B, .string wd, .slice A ws.length c, .int .i64 least, .int .i64 most]] w fun e_ w' => ∃ b,
      e_ = .returned (.tuple #[.agg #[.string (strOfNums lm), .int .i64 ((stepV ((IntKind.u64.wrap kind).tmod 9) B (bytesOf wd) ws least most lm im em).1 : Nat), .int .i64 (en (stepV ((IntKind.u64.wrap kind).tmod 9) B (bytesOf wd) ws least most lm im em).2)], .bool b]) ∧
      ((l = lm ∧ i = im ∧ e = em) → b = true) ∧ BoxS 61 w0 w' g l ((stepV ((IntKind.u64.wrap kind).tmod 9) B (bytesOf wd) ws least most l i e).1 : Nat) (stepV ((IntKind.u64.wrap kind).tmod 9) B (bytesOf wd) ws least most l i e).2 ∧ Below w0.heap.size w0 w' ∧ KeepBut w w' g none := by
  have hbd := (step_bd (B := B) (wd := bytesOf wd) (ws := ws) (least := least) (most := most) (e := e) ((IntKind.u64.wrap kind).tmod 9) hi).2.1
  have hbdm := (step_bd (B := B) (wd := bytesOf wd) (ws := ws) (least := least) (most := most) (e := em) ((IntKind.u64.wrap kind).tmod 9) him).2.1
  have hok := step_ok (B := B) (wd := bytesOf wd) (ws := ws) (least := least) (most := most) (l := l) (i := i) ((IntKind.u64.wrap kind).tmod 9) he
  have hokm := step_ok (B := B) (wd := bytesOf wd) (ws := ws) (least := least) (most := most) (l := lm) (i := im) ((IntKind.u64.wrap kind).tmod 9) hem
  have eqs0 : (l = lm ∧ i = im ∧ e = em) → stepV ((IntKind.u64.wrap kind).tmod 9) B (bytesOf wd) ws least most l i e = stepV ((IntKind.u64.wrap kind).tmod 9) B (bytesOf wd) ws least most lm im em := by
    rintro ⟨rfl, rfl, rfl⟩; rfl
  obtain ⟨⟨i', e'⟩, hs⟩ : ∃ x, stepV ((IntKind.u64.wrap kind).tmod 9) B (bytesOf wd) ws least most l i e = x := ⟨_, rfl⟩
  obtain ⟨⟨im', em'⟩, hsm⟩ : ∃ x, stepV ((IntKind.u64.wrap kind).tmod 9) B (bytesOf wd) ws least most lm im em = x := ⟨_, rfl⟩
  rw [hs] at hbd hok ⊢
  rw [hsm] at hbdm hokm ⊢
  dsimp only at hbd hok hbdm hokm ⊢
  have eqs : (l = lm ∧ i = im ∧ e = em) → (l = lm ∧ i' = im' ∧ e' = em') := fun q => by
    have h := eqs0 q
    rw [hs, hsm] at h
    injection h with h1 h2
    exact ⟨q.1, h1, h2⟩
  have S : ∀ W, BoxS 61 w0 W g l i' e' → Below w0.heap.size w0 W → Calls Try.prog 49 #[.pointer (some ⟨g, 0, none⟩), .agg #[.string (strOfNums lm), .int .i64 im', .int .i64 (en em')]] W fun e_ w' => ∃ b, e_ = .returned (.bool b) ∧ ((l = lm ∧ i = im ∧ e = em) → b = true) ∧ Below W.heap.size W w' := fun W h1 h2 =>
    (same_b w0 W g l i' e' lm im' em' h1 h2 hb hbm hbd hbdm hl hlm hok hokm).mono (fun _ _ ⟨b, h1, h2, h3⟩ => ⟨b, h1, fun m => h2 (eqs m).1 (eqs m).2.1 (eqs m).2.2, h3⟩)
  have hwl : (bytesOf wd).length ≤ 1000000 := by rw [bytesOf_length]; omega
  have hson := son_of wd
  by_cases h0 : (IntKind.u64.wrap kind).tmod 9 = 0
  · rw [h0, step_0] at hs hsm
    obtain ⟨e1, e2⟩ := Prod.mk.inj hs
    obtain ⟨m1, m2⟩ := Prod.mk.inj hsm
    obtain rfl := e2
    obtain rfl := m2
    have hr := rTake_is lm hbm im em B hem him (by omega)
    rw [← cast_if, m1] at hr
    refine (byte_act 61 w0 w g l i i' e e (strOfNums lm) im (en em) im' (en em) kind B wd A ws.length c least most (l = lm ∧ i = im ∧ e = em) HI hB (Or.inl ⟨h0, (comesV (leftV l i e) B), (comesV (leftV lm im em) B), ?_, ?_, fun q => by obtain ⟨rfl, rfl, rfl⟩ := q; rfl⟩) S).mono ?_
    · intro W _
      exact r4_Take.calls _ _ _ _ _ _ _ _ W hr
    · intro W _ h1 h2
      have h := byte_Take_c h1 h2 hb hi hl B
      rw [← cast_if, e1] at h
      exact h
    · rintro e_ w' ⟨b, rfl, hm, h1, h2, h3⟩
      exact ⟨b, rfl, hm, h1, h2, h3⟩
  by_cases h1 : (IntKind.u64.wrap kind).tmod 9 = 1
  · rw [h1, step_1] at hs hsm
    obtain ⟨e1, e2⟩ := Prod.mk.inj hs
    obtain ⟨m1, m2⟩ := Prod.mk.inj hsm
    obtain rfl := e2
    obtain rfl := m2
    obtain ⟨k, hr⟩ := Ev.ok (rFold_is lm hbm im em (bytesOf wd) (byt_of _) hem him hlm hwl)
    rw [← cast_if, m1, hson] at hr
    refine (byte_act 61 w0 w g l i i' e e (strOfNums lm) im (en em) im' (en em) kind B wd A ws.length c least most (l = lm ∧ i = im ∧ e = em) HI hB (Or.inr <| Or.inl ⟨h1, (foldV l i e (bytesOf wd)), (foldV lm im em (bytesOf wd)), ?_, ?_, fun q => by obtain ⟨rfl, rfl, rfl⟩ := q; rfl⟩) S).mono ?_
    · intro W _
      exact r4_Fold.calls k _ _ _ _ _ _ _ _ W hr
    · intro W _ h1 h2
      have h := byte_Fold_c h1 h2 hb hi hl wd
      rw [← cast_if, e1] at h
      exact h
    · rintro e_ w' ⟨b, rfl, hm, h1, h2, h3⟩
      exact ⟨b, rfl, hm, h1, h2, h3⟩
  by_cases h2 : (IntKind.u64.wrap kind).tmod 9 = 2
  · rw [h2, step_2] at hs hsm
    obtain ⟨e1, e2⟩ := Prod.mk.inj hs
    obtain ⟨m1, m2⟩ := Prod.mk.inj hsm
    obtain rfl := e2
    obtain rfl := m2
    obtain ⟨k, hr⟩ := Ev.ok (rRun_is lm hbm im em (bytesOf wd) (byt_of _) hem him hlm hwl)
    rw [m1, hson] at hr
    refine (byte_act 61 w0 w g l i i' e e (strOfNums lm) im (en em) im' (en em) kind B wd A ws.length c least most (l = lm ∧ i = im ∧ e = em) HI hB (Or.inr <| Or.inr <| Or.inl ⟨h2, (strOfNums ((leftV l i e).takeWhile (fun x => decide (x ∈ bytesOf wd)))), (strOfNums ((leftV lm im em).takeWhile (fun x => decide (x ∈ bytesOf wd)))), ?_, ?_, fun q => by obtain ⟨rfl, rfl, rfl⟩ := q; rfl⟩) S).mono ?_
    · intro W _
      exact r4_Run.calls k _ _ _ _ _ _ _ _ W hr
    · intro W _ h1 h2
      have h := byte_Run_c h1 h2 hb hi hl wd
      rw [e1] at h
      exact h
    · rintro e_ w' ⟨b, rfl, hm, h1, h2, h3⟩
      exact ⟨b, rfl, hm, h1, h2, h3⟩
  by_cases h3 : (IntKind.u64.wrap kind).tmod 9 = 3
  · rw [h3, step_3] at hs hsm
    obtain ⟨e1, e2⟩ := Prod.mk.inj hs
    obtain ⟨m1, m2⟩ := Prod.mk.inj hsm
    obtain rfl := e2
    obtain rfl := m2
    obtain ⟨k, hr⟩ := Ev.ok (rUntil_is lm hbm im em B hem him hlm)
    rw [m1] at hr
    refine (byte_act 61 w0 w g l i i' e e (strOfNums lm) im (en em) im' (en em) kind B wd A ws.length c least most (l = lm ∧ i = im ∧ e = em) HI hB (Or.inr <| Or.inr <| Or.inr <| Or.inl ⟨h3, (strOfNums ((leftV l i e).takeWhile (fun x => x != B))), (strOfNums ((leftV lm im em).takeWhile (fun x => x != B))), ?_, ?_, fun q => by obtain ⟨rfl, rfl, rfl⟩ := q; rfl⟩) S).mono ?_
    · intro W _
      exact r4_Until.calls k _ _ _ _ _ _ _ _ W hr
    · intro W _ h1 h2
      have h := byte_Until_c h1 h2 hb hi hl B hkind
      rw [e1] at h
      exact h
    · rintro e_ w' ⟨b, rfl, hm, h1, h2, h3⟩
      exact ⟨b, rfl, hm, h1, h2, h3⟩
  by_cases h4 : (IntKind.u64.wrap kind).tmod 9 = 4
  · rw [h4, step_4] at hs hsm
    obtain ⟨e1, e2⟩ := Prod.mk.inj hs
    obtain ⟨m1, m2⟩ := Prod.mk.inj hsm
    have e1' : (sfigV l i e least most).2.1 = (i' : Int) := by have := sfig_bd (e := e) (least := least) (most := most) hi; omega
    have m1' : (sfigV lm im em least most).2.1 = (im' : Int) := by have := sfig_bd (e := em) (least := least) (most := most) him; omega
    obtain ⟨k, hr⟩ := Ev.ok (rFigures_is lm im em least most hem him hlm)
    rw [m1', m2] at hr
    refine (byte_act 61 w0 w g l i i' e e' (strOfNums lm) im (en em) im' (en em') kind B wd A ws.length c least most (l = lm ∧ i = im ∧ e = em) HI hB (Or.inr <| Or.inr <| Or.inr <| Or.inr <| Or.inl ⟨h4, (sfigV l i e least most).1, (sfigV lm im em least most).1, ?_, ?_, fun q => by obtain ⟨rfl, rfl, rfl⟩ := q; rfl⟩) S).mono ?_
    · intro W _
      exact r4_Figures.calls k _ _ _ _ _ _ _ _ _ W hr
    · intro W _ h1 h2
      have h := byte_Figures_c h1 h2 hb hi hl least most
      rw [e1', e2] at h
      exact h
    · rintro e_ w' ⟨b, rfl, hm, h1, h2, h3⟩
      exact ⟨b, rfl, hm, h1, h2, h3⟩
  by_cases h5 : (IntKind.u64.wrap kind).tmod 9 = 5
  · rw [h5, step_5] at hs hsm
    obtain ⟨e1, e2⟩ := Prod.mk.inj hs
    obtain ⟨m1, m2⟩ := Prod.mk.inj hsm
    obtain ⟨k, hr⟩ := Ev.ok (rFold_is lm hbm im em (bytesOf wd) (byt_of _) hem him hlm hwl)
    rw [← cast_if, m1, hson] at hr
    have HA : ∀ W, KeepBut w W g none → BoxS 61 w0 W g l i e → Below w0.heap.size w0 W → Calls Try.prog 45 #[.pointer (some ⟨g, 0, none⟩), .string wd] W fun e_ w' => e_ = .returned (.tuple #[]) ∧ BoxS 61 w0 w' g l i' e' ∧ Below w0.heap.size w0 w' ∧ KeepBut W w' g none := by
      intro W _ h1 h2
      have h := byte_Must_c h1 h2 hb hi hl wd
      rw [← cast_if, e1, e2] at h
      exact h
    cases hf : foldV lm im em (bytesOf wd) with
    | true =>
      rw [hf] at hr m2
      simp only [if_true] at m2
      refine (byte_act 61 w0 w g l i i' e e' (strOfNums lm) im (en em) im' (en em') kind B wd A ws.length c least most (l = lm ∧ i = im ∧ e = em) HI hB (Or.inr <| Or.inr <| Or.inr <| Or.inr <| Or.inr <| Or.inl ⟨h5, ?_, HA⟩) S).mono ?_
      · intro W _
        rw [← m2]
        exact r4_Fold.calls k _ _ _ _ _ _ _ _ W hr
      · rintro e_ w' ⟨b, rfl, hm, h1, h2, h3⟩
        exact ⟨b, rfl, hm, h1, h2, h3⟩
    | false =>
      rw [hf] at hr m2 m1
      simp only [Bool.false_eq_true, if_false] at m2 m1
      have hx := rFail_is lm im' em 2 hem
      have hx2 : (if em.isNone = true then (2 : Int) else en em) = en em' := by rw [← m2]; cases em <;> rfl
      rw [hx2] at hx
      refine (byte_act 61 w0 w g l i i' e e' (strOfNums lm) im (en em) im' (en em') kind B wd A ws.length c least most (l = lm ∧ i = im ∧ e = em) HI hB (Or.inr <| Or.inr <| Or.inr <| Or.inr <| Or.inr <| Or.inr <| Or.inl ⟨h5, im', en em, ?_, ?_, HA⟩) S).mono ?_
      · intro W _
        exact r4_Fold.calls k _ _ _ _ _ _ _ _ W hr
      · intro W _
        exact r4_Fail.calls _ _ _ _ _ _ _ W hx
      · rintro e_ w' ⟨b, rfl, hm, h1, h2, h3⟩
        exact ⟨b, rfl, hm, h1, h2, h3⟩
  by_cases h6 : (IntKind.u64.wrap kind).tmod 9 = 6
  · rw [h6, step_6] at hs hsm
    obtain ⟨k, hr⟩ := Ev.ok (rWord_is lm hbm im em hem him hlm ws hws hwz)
    rw [hsm] at hr
    refine (byte_act 61 w0 w g l i i' e e' (strOfNums lm) im (en em) im' (en em') kind B wd A ws.length c least most (l = lm ∧ i = im ∧ e = em) HI hB (Or.inr <| Or.inr <| Or.inr <| Or.inr <| Or.inr <| Or.inr <| Or.inr <| Or.inl ⟨h6, (wordV l i e ws 0).1, (wordV lm im em ws 0).1, ?_, ?_, fun q => by obtain ⟨rfl, rfl, rfl⟩ := q; rfl⟩) S).mono ?_
    · intro W hk
      exact r4_Word.calls k _ _ _ A c ws _ _ _ _ W (C_keep hC hk hoff) hc hr
    · intro W hk h1 h2
      have h := byte_Word_c h1 h2 hb hi hl A c ws hws (C_keep hC hk hoff) hc hoff
      rw [hs] at h
      exact h
    · rintro e_ w' ⟨b, rfl, hm, h1, h2, h3⟩
      exact ⟨b, rfl, hm, h1, h2, h3⟩
  by_cases h7 : (IntKind.u64.wrap kind).tmod 9 = 7
  · rw [h7, step_7] at hs hsm
    have hr := rSkip_is lm im em most hem him hlm
    rw [hsm] at hr
    refine (byte_act 61 w0 w g l i i' e e' (strOfNums lm) im (en em) im' (en em') kind B wd A ws.length c least most (l = lm ∧ i = im ∧ e = em) HI hB (Or.inr <| Or.inr <| Or.inr <| Or.inr <| Or.inr <| Or.inr <| Or.inr <| Or.inr <| Or.inl ⟨h7, ?_, ?_⟩) S).mono ?_
    · intro W _
      exact r4_Skip.calls _ _ _ _ _ _ _ W hr
    · intro W _ h1 h2
      have h := byte_Skip_c h1 h2 hi hl most
      rw [hs] at h
      exact h
    · rintro e_ w' ⟨b, rfl, hm, h1, h2, h3⟩
      exact ⟨b, rfl, hm, h1, h2, h3⟩
  have hn : (IntKind.u64.wrap kind).tmod 9 ≠ 0 ∧ (IntKind.u64.wrap kind).tmod 9 ≠ 1 ∧ (IntKind.u64.wrap kind).tmod 9 ≠ 2 ∧ (IntKind.u64.wrap kind).tmod 9 ≠ 3 ∧ (IntKind.u64.wrap kind).tmod 9 ≠ 4 ∧ (IntKind.u64.wrap kind).tmod 9 ≠ 5 ∧ (IntKind.u64.wrap kind).tmod 9 ≠ 6 ∧ (IntKind.u64.wrap kind).tmod 9 ≠ 7 := ⟨h0, h1, h2, h3, h4, h5, h6, h7⟩
  rw [step_8 hn] at hs hsm
  obtain ⟨e1, e2⟩ := Prod.mk.inj hs
  obtain ⟨m1, m2⟩ := Prod.mk.inj hsm
  obtain rfl := e1
  obtain rfl := m1
  have hx := rFail_is lm im em 11 hem
  have hx2 : (if em.isNone = true then (11 : Int) else en em) = en em' := by rw [← m2]; cases em <;> rfl
  rw [hx2] at hx
  refine (byte_act 61 w0 w g l i i e e' (strOfNums lm) im (en em) im (en em') kind B wd A ws.length c least most (l = lm ∧ i = im ∧ e = em) HI hB (Or.inr <| Or.inr <| Or.inr <| Or.inr <| Or.inr <| Or.inr <| Or.inr <| Or.inr <| Or.inr ⟨hn, ?_, ?_⟩) S).mono ?_
  · intro W _
    exact r4_Fail.calls _ _ _ _ _ _ _ W hx
  · intro W _ h1 h2
    have h := byte_Fail_c h1 h2 11
    rw [e2] at h
    exact h
  · rintro e_ w' ⟨b, rfl, hm, h1, h2, h3⟩
    exact ⟨b, rfl, hm, h1, h2, h3⟩
end Go.Proofs.Ytonjfggfcnpgbaa.MScanPlays

/- What stands while the law ScanPlays runs: both scanners' boxes, the document's two. -/
namespace Go.Proofs.Ytonjfggfcnpgbaa.MScanPlays
open Go.RowKit Go.Proofs.YtonjfggfcnpgbaaW.PrintWords Go.Proofs.YtonjfggfcnpgbaaW.PrintLast Go.Proofs.YtonjfggfcnpgbaaW.PrintMore Go.Proofs.Ytonjfggfcnpgbaa.Base
set_option linter.unusedVariables false
set_option linter.unusedSimpArgs false

structure PE (w0 : World) (g g2 bm bn : Nat) (l : List Int) (i1 : Int) (e1 : Option Int) (i2 : Int) (e2 : Option Int) (vm vn : Array Value) (W : World) : Prop where
  is : BoxS 60 w0 W g l i1 e1
  ib : BoxS 61 w0 W g2 l i2 e2
  bel : Below w0.heap.size w0 W
  hm : W.heap[bm]? = some (.cells vm 31 (0, 0))
  hn : W.heap[bn]? = some (.cells vn 31 (0, 0))
  om : w0.heap.size ≤ bm
  on : w0.heap.size ≤ bn
  gm : g ≠ bm
  gn : g ≠ bn
  jm : g2 ≠ bm
  jn : g2 ≠ bn
  mn : bm ≠ bn
  gj : g ≠ g2
section
variable {w0 W W' : World} {g g2 bm bn : Nat} {l : List Int} {i1 i2 i' : Int} {e1 e2 e' : Option Int} {vm vn : Array Value}
theorem PE.below (E : PE w0 g g2 bm bn l i1 e1 i2 e2 vm vn W) (hb : Below W.heap.size W W') : PE w0 g g2 bm bn l i1 e1 i2 e2 vm vn W' :=
  ⟨⟨blk_below E.is.1 hb, E.is.2⟩, ⟨blk_below E.ib.1 hb, E.ib.2⟩, below_step E.bel hb, blk_below E.hm hb, blk_below E.hn hb, E.om, E.on, E.gm, E.gn, E.jm, E.jn, E.mn, E.gj⟩
theorem PE.callS (E : PE w0 g g2 bm bn l i1 e1 i2 e2 vm vn W) (hi : BoxS 60 w0 W' g l i' e') (hB : Below w0.heap.size w0 W') (hk : KeepBut W W' g none) : PE w0 g g2 bm bn l i' e' i2 e2 vm vn W' :=
  ⟨hi, ⟨hk.blk E.ib.1 E.gj.symm (by simp), E.ib.2⟩, hB, hk.blk E.hm E.gm.symm (by simp), hk.blk E.hn E.gn.symm (by simp), E.om, E.on, E.gm, E.gn, E.jm, E.jn, E.mn, E.gj⟩
theorem PE.callB (E : PE w0 g g2 bm bn l i1 e1 i2 e2 vm vn W) (hi : BoxS 61 w0 W' g2 l i' e') (hB : Below w0.heap.size w0 W') (hk : KeepBut W W' g2 none) : PE w0 g g2 bm bn l i1 e1 i' e' vm vn W' :=
  ⟨⟨hk.blk E.is.1 E.gj (by simp), E.is.2⟩, hi, hB, hk.blk E.hm E.jm.symm (by simp), hk.blk E.hn E.jn.symm (by simp), E.om, E.on, E.gm, E.gn, E.jm, E.jn, E.mn, E.gj⟩
theorem PE.belSet (E : PE w0 g g2 bm bn l i1 e1 i2 e2 vm vn W) (b : Nat) (hb : w0.heap.size ≤ b) (cs : Array Value) : Below w0.heap.size w0 (W.setRow b cs) :=
  ⟨E.bel.os, E.bel.tape, E.bel.output, by simpa using E.bel.size, fun k hk => (setRow_ne _ _ _ _ (by omega)).trans (E.bel.block k hk)⟩
theorem PE.setm (E : PE w0 g g2 bm bn l i1 e1 i2 e2 vm vn W) (cs : Array Value) : PE w0 g g2 bm bn l i1 e1 i2 e2 cs vn (W.setRow bm cs) :=
  ⟨⟨(setRow_ne _ _ _ _ E.gm).trans E.is.1, E.is.2⟩, ⟨(setRow_ne _ _ _ _ E.jm).trans E.ib.1, E.ib.2⟩, E.belSet _ E.om cs, setRow_heap _ _ _ _ _ _ E.hm, (setRow_ne _ _ _ _ E.mn.symm).trans E.hn, E.om, E.on, E.gm, E.gn, E.jm, E.jn, E.mn, E.gj⟩
theorem PE.setn (E : PE w0 g g2 bm bn l i1 e1 i2 e2 vm vn W) (cs : Array Value) : PE w0 g g2 bm bn l i1 e1 i2 e2 vm cs (W.setRow bn cs) :=
  ⟨⟨(setRow_ne _ _ _ _ E.gn).trans E.is.1, E.is.2⟩, ⟨(setRow_ne _ _ _ _ E.jn).trans E.ib.1, E.ib.2⟩, E.belSet _ E.on cs, (setRow_ne _ _ _ _ E.mn).trans E.hm, setRow_heap _ _ _ _ _ _ E.hn, E.om, E.on, E.gm, E.gn, E.jm, E.jn, E.mn, E.gj⟩
theorem PE.fresh (E : PE w0 g g2 bm bn l i1 e1 i2 e2 vm vn W) {b : Nat} (hb : b = W.heap.size) : b ≠ g ∧ b ≠ g2 ∧ b ≠ bm ∧ b ≠ bn := by
  have h1 := blk_lt E.is.1; have h2 := blk_lt E.ib.1; have h3 := blk_lt E.hm; have h4 := blk_lt E.hn
  omega
/-- A store into a box that is new since. -/
theorem PE.setx (E : PE w0 g g2 bm bn l i1 e1 i2 e2 vm vn W) {W1 : World} (hb1 : Below W.heap.size W W1) (b : Nat) (hb : b = W.heap.size) (cs : Array Value) : PE w0 g g2 bm bn l i1 e1 i2 e2 vm vn (W1.setRow b cs) := by
  obtain ⟨h1, h2, h3, h4⟩ := E.fresh hb
  have F := E.below hb1
  have h5 := E.bel.size
  exact ⟨⟨(setRow_ne _ _ _ _ h1.symm).trans F.is.1, E.is.2⟩, ⟨(setRow_ne _ _ _ _ h2.symm).trans F.ib.1, E.ib.2⟩, F.belSet _ (by omega) cs, (setRow_ne _ _ _ _ h3.symm).trans F.hm, (setRow_ne _ _ _ _ h4.symm).trans F.hn, E.om, E.on, E.gm, E.gn, E.jm, E.jn, E.mn, E.gj⟩
end
theorem C_lt' {w : World} {A : Option Addr} {ws : List ByteArray} (h : Kd.C Kd.string w A ws.length ws) {ad : Addr} (he : A = some ad) (hp : 0 < ws.length) : ad.block < w.heap.size := by
  obtain ⟨h1, h2, h3⟩ := h
  obtain ⟨ad', e', hcell⟩ := h3 hp
  obtain rfl := Option.some.inj (he.symm.trans e')
  obtain ⟨cc, q1, q2, q3⟩ := hcell 0 ws[0] (by simp [hp])
  have hq : cc = [.string ws[0]] := q2
  have h4 := q3 0 _ (by rw [hq]; rfl)
  have h5 := World.block_lt_of_cell? _ _ h4
  simpa [Addr.add] using h5
theorem set6 {w : World} {b : Nat} {a0 a1 a2 a3 a4 a5 u0 u1 u2 u3 u4 u5 : Value} {t : TypeId} {fr : Nat × Nat} (h : w.heap[b]? = some (.cells #[a0, a1, a2, a3, a4, a5] t fr)) :
    (((((w.setCell ⟨b, 0, none⟩ u0).setCell ⟨b, 1, none⟩ u1).setCell ⟨b, 2, none⟩ u2).setCell ⟨b, 3, none⟩ u3).setCell ⟨b, 4, none⟩ u4).setCell ⟨b, 5, none⟩ u5 = w.setRow b #[u0, u1, u2, u3, u4, u5] := by
  have st : ∀ (cs : Array Value) (i : Nat) (u : Value), (w.setRow b cs).setCell ⟨b, i, none⟩ u = w.setRow b (cs.setIfInBounds i u) := fun cs i u => by
    rw [setCell_eq_setRow _ b i _ _ _ _ (setRow_heap w b _ cs _ _ h), setRow_row]
  rw [setCell_eq_setRow w b 0 _ _ _ _ h, st, st, st, st, st]
  rfl
theorem u8_in {x : Int} (h : (Lit.int .u8 x).wf = true) : 0 ≤ x ∧ x ≤ 255 := by
  have q := bounds_u8 h
  omega
end Go.Proofs.Ytonjfggfcnpgbaa.MScanPlays

/- The law ScanPlays (written by gen_scanp.py). -/
namespace Go.Proofs.Ytonjfggfcnpgbaa.MScanPlays
open Go.RowKit Go.Proofs.YtonjfggfcnpgbaaW.PrintWords Go.Proofs.YtonjfggfcnpgbaaW.PrintLast Go.Proofs.YtonjfggfcnpgbaaW.PrintMore Go.Proofs.Ytonjfggfcnpgbaa.Base
set_option linter.unusedVariables false
set_option linter.unusedSimpArgs false

set_option maxHeartbeats 32000000 in
set_option maxRecDepth 100000 in
theorem scanPlays_walk (a0 : ByteArray) (A1 : Option Addr) (c1 : Nat) (l1 : List S35) (w : World) (w0 : a0.size ≤ 140737488351232) (hr1 : Kd.C k35 w A1 l1.length l1) (hc1 : l1.length ≤ c1) (w1 : (l1.length ≤ 9223372036854775807 ∧ ∀ y_ ∈ l1, ok35 y_)) :
    Calls Try.prog 3 #[.string a0, .slice A1 l1.length c1] w fun e w' => e = .returned (.bool true) ∧ Below w.heap.size w w' := by
  obtain ⟨ka, hal⟩ := alive_is
  obtain ⟨kl, hlg⟩ := Ev.ok (long_is a0 l1 w1.1 w1.2)
  have HAL := Aside0.mk hal
  have HLG := Aside0.mk hlg
  have HR := Aside0.mk hr1
  have HC := Aside0.mk hc1
  have hbl : Byt (bytesOf a0) := byt_of a0
  have ha0 : strOfNums (bytesOf a0) = a0 := son_of a0
  have HW1 := Aside0.mk w1
  cases hlong : longV a0 l1 with
  | true =>
    rw [hlong] at HLG
    clear hal hlg hr1 hc1 w1 hlong ha0 hbl
    go_enter Try.func3, Try.ntmps3
    go_wp2_with (first | (go_at_call 6; refine (horologelaw04_alive.calls ka true _ HAL.out).mono ?_; rintro e_ w2 ⟨rfl, hb2⟩; have B2 := Aside0.mk hb2; clear hb2) | (go_at_call 7; refine (horologelaw04_long.calls kl _ _ _ l1 true _ (Kd.C_below HR.out B2.out) HC.out HLG.out).mono ?_; rintro e_ w3 ⟨rfl, hb3⟩; have B3 := Aside0.mk (below_step B2.out hb3); clear hb3) | fail)
    go_ret
    exact ⟨rfl, B3.out⟩
  | false =>
    rw [hlong] at HLG
    have HN := Aside0.mk (long_no hlong)
    have hbs0 : bytesOf (strOfNums (bytesOf a0)) = bytesOf a0 := by rw [ha0]
    generalize bytesOf a0 = l at hbl ha0 hbs0
    subst ha0
    have HBS := Aside0.mk hbs0
    have hll : l.length ≤ 300 := by have := HN.out.1; rw [son_size] at this; exact this
    have hnl : l1.length ≤ 60 := HN.out.2.1
    have hsz : (strOfNums l).size = l.length := son_size l
    have HY := Aside0.mk hbl
    clear hal hlg hr1 hc1 w1 hlong hbl w0 hbs0
    have kb := fun W => print_bytes (P := Try.prog) 9 25 5 Try.underlying9 Try.underlying25 Try.underlying5 (strOfNums l) W
    go_enter Try.func3, Try.ntmps3
    go_upto_region 6 with (first | (go_at_call 6; refine (horologelaw04_alive.calls ka true _ HAL.out).mono ?_; rintro e_ w2 ⟨rfl, hb2⟩; have B2 := Aside0.mk hb2; clear hb2) | (go_at_call 7; refine (horologelaw04_long.calls kl _ _ _ l1 false _ (Kd.C_below HR.out B2.out) HC.out HLG.out).mono ?_; rintro e_ w3 ⟨rfl, hb3⟩; have B3 := Aside0.mk (below_step B2.out hb3); clear hb3) | fail)
    have BR := Aside0.mk (show Kd.C (Kd.int .u8) (Lib.bytesWorld w3 5 (strOfNums l)) (some ⟨w3.heap.size, 0, none⟩) l.length l from by have q_ := bytes_reads w3 5 (strOfNums l) (by rw [hsz]; omega); rw [hsz, HBS.out] at q_; exact Kd.C_of_reads (readsInt_of.mp q_))
    have CP := Aside0.mk (show l.length ≤ grownCap w3 l.length 0 5 from grownCap_ge _ _ _ _)
    have B5 := Aside0.mk (bytes_below B3.out B3.out.size 5 (strOfNums l))
    generalize Lib.bytesWorld w3 5 (strOfNums l) = w5 at BR B5 ⊢
    generalize grownCap w3 l.length 0 5 = cp at CP ⊢
    generalize (⟨w3.heap.size, 0, none⟩ : Addr) = ab at BR ⊢
    go_upto_region 7 with (first | (go_at_call 8; refine (scan_New_string.calls _ (strOfNums l) ((0 : Nat) : Int) none w5 _ (Below.refl _ _) rfl).mono ?_; rintro e_ w6 ⟨g, rfl, hi, hb, _⟩; have HI := Aside0.mk (show BoxS 60 w5 w6 g l ((0 : Nat) : Int) none from hi); have B6 := Aside0.mk hb; clear hi hb) | (go_at_call 9; refine (scan_New_byte.calls _ _ l (strOfNums l) ((0 : Nat) : Int) none w5 _ B6.out BR.out CP.out rfl).mono ?_; rintro e_ w7 ⟨g2, rfl, hi, hb, hb6⟩; have HJ := Aside0.mk (show BoxS 61 w5 w7 g2 l ((0 : Nat) : Int) none from hi); have B7 := Aside0.mk hb; have HI := Aside0.mk (show BoxS 60 w5 w7 g l ((0 : Nat) : Int) none from ⟨blk_below HI.out.1 hb6, HI.out.2⟩); clear hi hb hb6) | fail)
    have NG := Aside0.mk (show g ≠ g2 from fun h_ => by have a_ := HI.out.1; have b_ := HJ.out.1; rw [h_, b_] at a_; cases a_)
    go_upto_region 8 with (first | ((with_reducible refine gate_dst (N := 8) rfl ?_); refine box_event ?hg (N := 8) ?hd (cs := #[.string ⟨#[]⟩, .int .i64 0, .int .i64 0]) (t := 31) ?hr ?_; (case hd => rfl); (case hg => rfl); (case hr => go_simp; try rfl); intro g8 hg_ w8 hx_ hb_; have G8 := Aside0.mk hg_; have H8 := Aside0.mk hb_; have B8 := Aside0.mk hx_; clear hg_ hx_ hb_; skip) | ((with_reducible refine gate_dst (N := 9) rfl ?_); refine box_event ?hg (N := 9) ?hd (cs := #[.string ⟨#[]⟩, .int .i64 0, .int .i64 0]) (t := 31) ?hr ?_; (case hd => rfl); (case hg => rfl); (case hr => go_simp; try rfl); intro g9 hg_ w9 hx_ hb_; have G9 := Aside0.mk hg_; have H9 := Aside0.mk hb_; have B9 := Aside0.mk hx_; clear hg_ hx_ hb_; refine halt_ ?_) | fail)
    unfold Halted
    try apply_assumption
    have n1 := blk_lt HI.out.1
    have n2 := blk_lt HJ.out.1
    have n3 := G8.out
    have n4 := G9.out
    have n5 := H8.out.size
    have n6 := blk_lt B8.out
    have n7 := B7.out.size
    refine wpList_store_row rfl 31 _ _ rfl g8 (R3 (strOfNums l) ((0 : Nat) : Int) (en none)) rfl rfl 31 _ (blk_below B8.out H9.out) (by kernel_rfl) (by rfl) (one3 _ _ _ _ _) ?_
    refine wpList_store_row rfl 31 _ _ rfl g9 (R3 (strOfNums l) ((0 : Nat) : Int) (en none)) rfl rfl 31 _ ((setRow_ne _ _ _ _ (by omega)).trans B9.out) (by kernel_rfl) (by rfl) (one3 _ _ _ _ _) ?_
    have BA_ := below_step (below_step B7.out H8.out) H9.out
    have E0 := Aside0.mk (show PE w5 g g2 g8 g9 l ((0 : Nat) : Int) none ((0 : Nat) : Int) none (R3 (strOfNums l) ((0 : Nat) : Int) (en none)) (R3 (strOfNums l) ((0 : Nat) : Int) (en none)) ((w9.setRow g8 (R3 (strOfNums l) ((0 : Nat) : Int) (en none))).setRow g9 (R3 (strOfNums l) ((0 : Nat) : Int) (en none))) from ⟨⟨(setRow_ne _ _ _ _ (by omega)).trans ((setRow_ne _ _ _ _ (by omega)).trans (blk_below (blk_below HI.out.1 H8.out) H9.out)), HI.out.2⟩, ⟨(setRow_ne _ _ _ _ (by omega)).trans ((setRow_ne _ _ _ _ (by omega)).trans (blk_below (blk_below HJ.out.1 H8.out) H9.out)), HJ.out.2⟩, ⟨BA_.os, BA_.tape, BA_.output, by simpa using BA_.size, fun k hk => (setRow_ne _ _ _ _ (by omega)).trans ((setRow_ne _ _ _ _ (by omega)).trans (BA_.block k hk))⟩, (setRow_ne _ _ _ _ (by omega)).trans (setRow_heap _ _ _ _ _ _ (blk_below B8.out H9.out)), setRow_heap _ _ _ _ _ _ ((setRow_ne _ _ _ _ (by omega)).trans B9.out), by omega, by omega, by omega, by omega, by omega, by omega, by omega, NG.out⟩)
    clear n1 n2 n3 n4 n5 n6 n7 BA_ HI HJ B6 B7 G8 G9 H8 H9 B8 B9 NG
    generalize (w9.setRow g8 (R3 (strOfNums l) ((0 : Nat) : Int) (en none))).setRow g9 (R3 (strOfNums l) ((0 : Nat) : Int) (en none)) = wz at E0 ⊢
    go_wp2_with (first | ((with_reducible refine gate_dst (N := 32) rfl ?_); refine wpList_load_row rfl 31 _ rfl g8 rfl 31 _ (0, 0) _ E0.out.hm Try.underlying31 rfl (by kernel_rfl) ?_) | (go_at_call 10; refine (same_c w5 _ g l 0 none l 0 none E0.out.is E0.out.bel HY.out HY.out (Nat.zero_le _) (Nat.zero_le _) (by omega) (by omega) (by simp [EOK]) (by simp [EOK])).mono ?_; rintro e_ wq ⟨b_, rfl, hm_, hb_⟩; obtain rfl := hm_ rfl rfl rfl; have E0 := Aside0.mk (E0.out.below hb_); clear hm_ hb_) | fail)
    go_loopw [37] (fun v37 wr => ∃ (k i : Nat) (e : Option Int), v37 = .int .i64 k ∧ k ≤ l1.length ∧ Aside0 (PE w5 g g2 g8 g9 l (i : Int) e (i : Int) e (R3 (strOfNums l) (i : Int) (en e)) (R3 (strOfNums l) (i : Int) (en e)) wr) ∧ Aside0 (i ≤ l.length ∧ EOK e)) (fun v37 _ => l1.length - (intOf v37).toNat)
    case atStart => exact ⟨0, 0, none, rfl, Nat.zero_le _, E0, ⟨Nat.zero_le _, by simp [EOK]⟩⟩
    case round =>
      clear E0
      obtain ⟨k, i, e, rfl, hk, E0, HIE⟩ := hrel
      by_cases hlt : k < l1.length
      · have hBw := below_step B5.out E0.out.bel
        obtain ⟨ad, A3, c3, e39, hx0, hx1, hx2, hx3, hx4, hx5, hl3, hi3⟩ := at_T35 HR.out (k : Int) (by omega) (by omega)
        cases e39
        have hmem : rd_T35 l1 (k : Int) ∈ l1 := by unfold rd_T35; simp [List.getD, hlt]
        have HNa := Aside0.mk (HN.out.2.2 _ hmem)
        have HOK := Aside0.mk (HW1.out.2 _ hmem)
        generalize rd_T35 l1 (k : Int) = a at hx0 hx1 hx2 hx3 hx4 hx5 hl3 hi3 HNa HOK
        obtain ⟨kind, B, wd, ws, least, most⟩ := a
        dsimp only at hx0 hx1 hx2 hx3 hx4 hx5 hl3 hi3 HNa HOK
        simp only [Int.toNat_natCast] at hx0 hx1 hx2 hx3 hx4 hx5
        replace hx0 := (hBw.cell (World.block_lt_of_cell? w _ hx0)).trans hx0
        replace hx1 := (hBw.cell (World.block_lt_of_cell? w _ hx1)).trans hx1
        replace hx2 := (hBw.cell (World.block_lt_of_cell? w _ hx2)).trans hx2
        replace hx3 := (hBw.cell (World.block_lt_of_cell? w _ hx3)).trans hx3
        replace hx4 := (hBw.cell (World.block_lt_of_cell? w _ hx4)).trans hx4
        replace hx5 := (hBw.cell (World.block_lt_of_cell? w _ hx5)).trans hx5
        have HWS := Aside0.mk hi3
        have HWC := Aside0.mk hl3
        have HOF1 : Aside0 (∀ ad, A3 = some ad → 0 < ws.length → ad.block ≠ g) := ⟨fun ad he hp => by have h1 := C_lt' HWS.out he hp; have h2 := B5.out.size; have h3 := E0.out.is.2; omega⟩
        have HOF2 : Aside0 (∀ ad, A3 = some ad → 0 < ws.length → ad.block ≠ g2) := ⟨fun ad he hp => by have h1 := C_lt' HWS.out he hp; have h2 := B5.out.size; have h3 := E0.out.ib.2; omega⟩
        clear hi3 hl3 hmem
        have p39 : (0 ≤ (k : Int)) = True := eq_true (by omega)
        have q39 : ((k : Int) < (l1.length : Int)) = True := eq_true (by omega)
        clear hBw
        obtain ⟨⟨i', e'⟩, hs⟩ : ∃ x, stepV ((IntKind.u64.wrap kind).tmod 9) B (bytesOf wd) ws least most l i e = x := ⟨_, rfl⟩
        have hst := step_bd (B := B) (wd := bytesOf wd) (ws := ws) (least := least) (most := most) (e := e) ((IntKind.u64.wrap kind).tmod 9) HIE.out.1
        have hso := step_ok (B := B) (wd := bytesOf wd) (ws := ws) (least := least) (most := most) (l := l) (i := i) ((IntKind.u64.wrap kind).tmod 9) HIE.out.2
        rw [hs] at hst hso
        dsimp only at hst hso
        have HST := Aside0.mk (And.intro hst.2.1 hso)
        have HSS := Aside0.mk hs
        clear hst hso hs
        go_upto_region 13 with (first | ((with_reducible refine gate_dst (N := 11) rfl ?_); refine box_event ?hg (N := 11) ?hd (cs := #[.int .i64 0, .int .u8 0, .string (⟨#[]⟩ : ByteArray), .slice none 0 0, .int .i64 0, .int .i64 0]) (t := 35) ?hr ?_; (case hd => rfl); (case hg => rfl); (case hr => go_simp; try rfl); intro gx hg_ wx hx_ hb_; have Gx := Aside0.mk hg_; have Hx := Aside0.mk hb_; have Bx := Aside0.mk hx_; clear hg_ hx_ hb_; have yx0_ := (blk_cell Bx.out 0).trans rfl; have fx0_ := blk_frozen Bx.out 0; have yx1_ := (blk_cell Bx.out 1).trans rfl; have fx1_ := blk_frozen Bx.out 1; have yx2_ := (blk_cell Bx.out 2).trans rfl; have fx2_ := blk_frozen Bx.out 2; have yx3_ := (blk_cell Bx.out 3).trans rfl; have fx3_ := blk_frozen Bx.out 3; have yx4_ := (blk_cell Bx.out 4).trans rfl; have fx4_ := blk_frozen Bx.out 4; have yx5_ := (blk_cell Bx.out 5).trans rfl; have fx5_ := blk_frozen Bx.out 5) | fail)
        rw [set6 Bx.out]
        have NX := Aside0.mk (E0.out.fresh Gx.out)
        have E0 := Aside0.mk (E0.out.setx Hx.out gx Gx.out #[.int .i64 kind, .int .u8 B, .string wd, .slice A3 ws.length c3, .int .i64 least, .int .i64 most])
        have BX := Aside0.mk (setRow_heap _ _ _ #[.int .i64 kind, .int .u8 B, .string wd, .slice A3 ws.length c3, .int .i64 least, .int .i64 most] _ _ Bx.out)
        clear Gx Hx Bx hx0 hx1 hx2 hx3 hx4 hx5
        clear yx0_ fx0_ yx1_ fx1_ yx2_ fx2_ yx3_ fx3_ yx4_ fx4_ yx5_ fx5_
        generalize wx.setRow gx #[.int .i64 kind, .int .u8 B, .string wd, .slice A3 ws.length c3, .int .i64 least, .int .i64 most] = wy at E0 BX ⊢
        go_wp2_with (first | ((with_reducible refine gate_dst (N := 43) rfl ?_); refine wpList_load_row rfl 31 _ rfl g8 rfl 31 _ (0, 0) _ E0.out.hm Try.underlying31 rfl (by kernel_rfl) ?_) | ((with_reducible refine gate_dst (N := 44) rfl ?_); refine wpList_load_row rfl 35 _ rfl gx rfl 35 _ (0, 0) _ BX.out Try.underlying35 rfl (by kernel_rfl) ?_) | (go_at_call 11; refine (string_act_c w5 _ g l i e l i e kind B wd A3 c3 ws least most E0.out.is E0.out.bel HY.out HY.out HIE.out.1 HIE.out.1 (by omega) (by omega) HIE.out.2 HIE.out.2 (Kd.C_below HWS.out (below_step B5.out E0.out.bel)) HWC.out HOF1.out (by have q_ := HNa.out.2.1; omega) (fun x_ h_ => by have q_ := HNa.out.2.2 x_ h_; omega) (by have q_ := HNa.out.1; omega) (u8_in HOK.out.2.1)).mono ?_; rintro e_ wa ⟨b_, he_, hm_, hi_, hB_, hk_⟩; obtain rfl := hm_ ⟨rfl, rfl, rfl⟩; rw [HSS.out] at he_ hi_; have he2_ : e_ = .returned (.tuple #[.agg #[.string (strOfNums l), .int .i64 (i' : Int), .int .i64 (en e')], .bool true]) := he_; clear he_; subst he2_; have E0 := Aside0.mk (E0.out.callS (show BoxS 60 w5 wa g l (i' : Int) e' from hi_) hB_ hk_); have BX := Aside0.mk (hk_.blk BX.out NX.out.1 (by simp)); clear hm_ hi_ hB_ hk_) | ((with_reducible refine gate_dst (N := 12) rfl ?_); refine box_event ?hg (N := 12) ?hd (cs := #[.string ⟨#[]⟩, .int .i64 0, .int .i64 0]) (t := 31) ?hr ?_; (case hd => rfl); (case hg => rfl); (case hr => go_simp; try rfl); intro gb hg_ wb hx_ hb_; have Gb := Aside0.mk hg_; have Hb := Aside0.mk hb_; have Bb := Aside0.mk hx_; clear hg_ hx_ hb_; refine halt_ ?_) | fail)
        unfold Halted
        try apply_assumption
        refine wpList_store_row rfl 31 _ _ rfl gb (R3 (strOfNums l) (i' : Int) (en e')) rfl rfl 31 _ Bb.out (by kernel_rfl) (by rfl) (one3 _ _ _ _ _) ?_
        have NB := Aside0.mk (E0.out.fresh Gb.out)
        have LB := Aside0.mk (show gx ≠ gb from by have a_ := blk_lt BX.out; have b_ := Gb.out; omega)
        have E0 := Aside0.mk (E0.out.setx Hb.out gb Gb.out (R3 (strOfNums l) (i' : Int) (en e')))
        have BX := Aside0.mk ((setRow_ne _ _ _ (R3 (strOfNums l) (i' : Int) (en e')) LB.out).trans (blk_below BX.out Hb.out))
        have BB := Aside0.mk (setRow_heap _ _ _ (R3 (strOfNums l) (i' : Int) (en e')) _ _ Bb.out)
        clear Gb Hb Bb LB
        generalize wb.setRow gb (R3 (strOfNums l) (i' : Int) (en e')) = wc at E0 BX BB ⊢
        go_wp2_with (first | ((with_reducible refine gate_dst (N := 50) rfl ?_); refine wpList_load_row rfl 31 _ rfl g9 rfl 31 _ (0, 0) _ E0.out.hn Try.underlying31 rfl (by kernel_rfl) ?_) | ((with_reducible refine gate_dst (N := 51) rfl ?_); refine wpList_load_row rfl 35 _ rfl gx rfl 35 _ (0, 0) _ BX.out Try.underlying35 rfl (by kernel_rfl) ?_) | (go_at_call 12; refine (byte_act_c w5 _ g2 l i e l i e kind B wd A3 c3 ws least most E0.out.ib E0.out.bel HY.out HY.out HIE.out.1 HIE.out.1 (by omega) (by omega) HIE.out.2 HIE.out.2 (Kd.C_below HWS.out (below_step B5.out E0.out.bel)) HWC.out HOF2.out (by have q_ := HNa.out.2.1; omega) (fun x_ h_ => by have q_ := HNa.out.2.2 x_ h_; omega) (by have q_ := HNa.out.1; omega) (u8_in HOK.out.2.1)).mono ?_; rintro e_ wa ⟨b_, he_, hm_, hi_, hB_, hk_⟩; obtain rfl := hm_ ⟨rfl, rfl, rfl⟩; rw [HSS.out] at he_ hi_; have he2_ : e_ = .returned (.tuple #[.agg #[.string (strOfNums l), .int .i64 (i' : Int), .int .i64 (en e')], .bool true]) := he_; clear he_; subst he2_; have E0 := Aside0.mk (E0.out.callB (show BoxS 61 w5 wa g2 l (i' : Int) e' from hi_) hB_ hk_); have BX := Aside0.mk (hk_.blk BX.out NX.out.2.1 (by simp)); have BB := Aside0.mk (hk_.blk BB.out NB.out.2.1 (by simp)); clear hm_ hi_ hB_ hk_) | ((with_reducible refine gate_dst (N := 14) rfl ?_); refine box_event ?hg (N := 14) ?hd (cs := #[.string ⟨#[]⟩, .int .i64 0, .int .i64 0]) (t := 31) ?hr ?_; (case hd => rfl); (case hg => rfl); (case hr => go_simp; try rfl); intro gd hg_ wd_ hx_ hb_; have Gd := Aside0.mk hg_; have Hd := Aside0.mk hb_; have Bd := Aside0.mk hx_; clear hg_ hx_ hb_; refine halt_ ?_) | fail)
        unfold Halted
        try apply_assumption
        refine wpList_store_row rfl 31 _ _ rfl gd (R3 (strOfNums l) (i' : Int) (en e')) rfl rfl 31 _ Bd.out (by kernel_rfl) (by rfl) (one3 _ _ _ _ _) ?_
        have ND := Aside0.mk (E0.out.fresh Gd.out)
        have LB := Aside0.mk (show gb ≠ gd from by have a_ := blk_lt BB.out; have b_ := Gd.out; omega)
        have E0 := Aside0.mk (E0.out.setx Hd.out gd Gd.out (R3 (strOfNums l) (i' : Int) (en e')))
        have BB := Aside0.mk ((setRow_ne _ _ _ (R3 (strOfNums l) (i' : Int) (en e')) LB.out).trans (blk_below BB.out Hd.out))
        have BD := Aside0.mk (setRow_heap _ _ _ (R3 (strOfNums l) (i' : Int) (en e')) _ _ Bd.out)
        clear Gd Hd Bd LB BX NX
        generalize wd_.setRow gd (R3 (strOfNums l) (i' : Int) (en e')) = we at E0 BB BD ⊢
        go_wp2_with (fail)
        refine region_inv (T := ?T15) [some 55, some 56, none, none] ?hT15 (fun dn_ X w_ => PE w5 g g2 g8 g9 l (i' : Int) e' (i' : Int) e' (bif dn_ 2 then (R3 (strOfNums l) (i' : Int) (en e')) else (R3 (strOfNums l) (i : Int) (en e))) (bif dn_ 3 then (R3 (strOfNums l) (i' : Int) (en e')) else (R3 (strOfNums l) (i : Int) (en e))) w_ ∧ w_.heap[gb]? = some (.cells (R3 (strOfNums l) (i' : Int) (en e')) 31 (0, 0)) ∧ w_.heap[gd]? = some (.cells (R3 (strOfNums l) (i' : Int) (en e')) 31 (0, 0)) ∧ gb ≠ g8 ∧ gb ≠ g9 ∧ gd ≠ g8 ∧ gd ≠ g9 ∧ (dn_ 0 = true → X 0 = .agg #[.string (strOfNums l), .int .i64 (i' : Int), .int .i64 (en e')]) ∧ (dn_ 1 = true → X 1 = .agg #[.string (strOfNums l), .int .i64 (i' : Int), .int .i64 (en e')]) ∧ (dn_ 2 = true → True) ∧ (dn_ 3 = true → True)) (by kernel_rfl) (by kernel_rfl) (by rfl) [0, 1, 2, 3] rfl (.cons (some 55) rfl rfl (fun dn_ X w_ hd0_ hd_ hI_ K hK => ?_) (.cons (some 56) rfl rfl (fun dn_ X w_ hd0_ hd_ hI_ K hK => ?_) (.cons none rfl rfl (fun dn_ X w_ hd0_ hd_ hI_ K hK => ?_) (.cons none rfl rfl (fun dn_ X w_ hd0_ hd_ hI_ K hK => ?_) .nil)))) ?h015 ?hend15
        case hT15 =>
          intro X
          simp only [fill, Act.put, sl_, Nat.zero_add, Nat.reduceAdd]
          rfl
        case h015 =>
          exact ⟨E0.out.below (below_drew (Below.refl _ _)), blk_below BB.out (below_drew (Below.refl _ _)), blk_below BD.out (below_drew (Below.refl _ _)), NB.out.2.2.1, NB.out.2.2.2, ND.out.2.2.1, ND.out.2.2.2, noF_, noF_, noF_, noF_⟩
        · -- 0
          have wB := hI_.2.1
          have z0_ := r3_0 wB
          have z1_ := r3_1 wB
          have z2_ := r3_2 wB
          refine val_ (w1 := w_) (v := .agg #[.string (strOfNums l), .int .i64 (i' : Int), .int .i64 (en e')]) (by rfl) rfl ?_ (hK.out _ _ _ rfl ⟨hI_.1, hI_.2.1, hI_.2.2.1, hI_.2.2.2.1, hI_.2.2.2.2.1, hI_.2.2.2.2.2.1, hI_.2.2.2.2.2.2.1, (fun _ => rfl), hI_.2.2.2.2.2.2.2.2.1, hI_.2.2.2.2.2.2.2.2.2.1, hI_.2.2.2.2.2.2.2.2.2.2⟩)
          go_simp
          all_goals (first | decide | rfl)
        · -- 1
          have wD := hI_.2.2.1
          have z0_ := r3_0 wD
          have z1_ := r3_1 wD
          have z2_ := r3_2 wD
          refine val_ (w1 := w_) (v := .agg #[.string (strOfNums l), .int .i64 (i' : Int), .int .i64 (en e')]) (by rfl) rfl ?_ (hK.out _ _ _ rfl ⟨hI_.1, hI_.2.1, hI_.2.2.1, hI_.2.2.2.1, hI_.2.2.2.2.1, hI_.2.2.2.2.2.1, hI_.2.2.2.2.2.2.1, hI_.2.2.2.2.2.2.2.1, (fun _ => rfl), hI_.2.2.2.2.2.2.2.2.2.1, hI_.2.2.2.2.2.2.2.2.2.2⟩)
          go_simp
          all_goals (first | decide | rfl)
        · -- 2
          have wE := hI_.1
          have wB := hI_.2.1
          have wD := hI_.2.2.1
          have n1 := hI_.2.2.2.1
          have n2 := hI_.2.2.2.2.1
          have n3 := hI_.2.2.2.2.2.1
          have n4 := hI_.2.2.2.2.2.2.1
          have h0 := hI_.2.2.2.2.2.2.2.1
          have h1 := hI_.2.2.2.2.2.2.2.2.1
          have h2 := hI_.2.2.2.2.2.2.2.2.2.1
          have h3 := hI_.2.2.2.2.2.2.2.2.2.2
          have e0 := h0 (hd_ 1 0 (by kernel_rfl))
          have wE0 : PE w5 g g2 g8 g9 l (i' : Int) e' (i' : Int) e' (R3 (strOfNums l) (i : Int) (en e)) (bif dn_ 3 then (R3 (strOfNums l) (i' : Int) (en e')) else (R3 (strOfNums l) (i : Int) (en e))) w_ := by rw [hd0_] at wE; exact wE
          rw [if_pos (by rfl)]
          refine wp_store_row 31 _ _ rfl g8 (R3 (strOfNums l) (i' : Int) (en e')) rfl ?_ 31 _ wE0.hm (by kernel_rfl) (by rfl) (one3 _ _ _ _ _) ?_
          · exact e0
          · exact hK.out _ undef _ rfl ⟨(wE0.setm _), ((setRow_ne _ _ _ _ n1).trans wB), ((setRow_ne _ _ _ _ n3).trans wD), n1, n2, n3, n4, h0, h1, (fun _ => trivial), h3⟩
        · -- 3
          have wE := hI_.1
          have wB := hI_.2.1
          have wD := hI_.2.2.1
          have n1 := hI_.2.2.2.1
          have n2 := hI_.2.2.2.2.1
          have n3 := hI_.2.2.2.2.2.1
          have n4 := hI_.2.2.2.2.2.2.1
          have h0 := hI_.2.2.2.2.2.2.2.1
          have h1 := hI_.2.2.2.2.2.2.2.2.1
          have h2 := hI_.2.2.2.2.2.2.2.2.2.1
          have h3 := hI_.2.2.2.2.2.2.2.2.2.2
          have e1 := h1 (hd_ 1 1 (by kernel_rfl))
          have wE0 : PE w5 g g2 g8 g9 l (i' : Int) e' (i' : Int) e' (bif dn_ 2 then (R3 (strOfNums l) (i' : Int) (en e')) else (R3 (strOfNums l) (i : Int) (en e))) (R3 (strOfNums l) (i : Int) (en e)) w_ := by rw [hd0_] at wE; exact wE
          rw [if_pos (by rfl)]
          refine wp_store_row 31 _ _ rfl g9 (R3 (strOfNums l) (i' : Int) (en e')) rfl ?_ 31 _ wE0.hn (by kernel_rfl) (by rfl) (one3 _ _ _ _ _) ?_
          · exact e1
          · exact hK.out _ undef _ rfl ⟨(wE0.setn _), ((setRow_ne _ _ _ _ n2).trans wB), ((setRow_ne _ _ _ _ n4).trans wD), n1, n2, n3, n4, h0, h1, h2, (fun _ => trivial)⟩
        intro dn_ X wv hdn_ hI_
        clear E0 BB BD NB ND
        obtain ⟨wE, wB, wD, n1, n2, n3, n4, h0, h1, h2, h3⟩ := hI_
        rw [hdn_ 2 (by decide), hdn_ 3 (by decide)] at wE
        have E0 := Aside0.mk (show PE w5 g g2 g8 g9 l (i' : Int) e' (i' : Int) e' (R3 (strOfNums l) (i' : Int) (en e')) (R3 (strOfNums l) (i' : Int) (en e')) wv from wE)
        clear wE wB wD n1 n2 n3 n4 h0 h1 h2 h3 hdn_
        go_wp2_with (fail)
        go_roundw
        case rel => exact ⟨k + 1, i', e', by go_num, hlt, E0, HST⟩
        case measure => simp [intOf]; omega
      · obtain rfl : k = l1.length := by omega
        go_wp2_with (first | (go_at_call 13; refine (horologenum_Bytes.calls _ _ l _ _ l true _ (Kd.C_below BR.out (bytes_below E0.out.bel E0.out.bel.size 5 (strOfNums l))) CP.out (by have q_ := bytes_reads wr 5 (strOfNums l) (by rw [hsz]; omega); rw [hsz, HBS.out] at q_; exact Kd.C_of_reads (readsInt_of.mp q_)) (grownCap_ge _ _ _ _) (by simp [horologenum_Bytes.f])).mono ?_; rintro e_ wq ⟨rfl, ⟨m_, rfl⟩⟩) | fail)
        go_ret
        exact ⟨rfl, pw_below_drewN (bytes_below (below_step B5.out E0.out.bel) (below_step B5.out E0.out.bel).size 5 (strOfNums l)) m_⟩
end Go.Proofs.Ytonjfggfcnpgbaa.MScanPlays

