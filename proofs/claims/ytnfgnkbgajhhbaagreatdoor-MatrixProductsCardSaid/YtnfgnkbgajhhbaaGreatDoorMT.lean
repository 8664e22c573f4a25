/-
 The law MatrixProducts from where its loops begin.
-/
import Derived.Test.YtnfgnkbgajhhbaaGreatDoorMR
set_option linter.constructorNameAsVariable false
set_option linter.unusedSimpArgs false
set_option linter.unusedVariables false
namespace Go.Proofs.YtnfgnkbgajhhbaaGreatDoor
open Go.Am Go.Tx Dv Go.Lib
set_option maxRecDepth 100000
def Zqs : Ex → TM → List SM → Prop := ZuS tys Tryz.f4.results.toList fun V hp => ZgW hp 40 V fun V => V = .v .b true
def c18 (pss : List (List Rat)) (b : List (List (List UInt8))) (v : List (List UInt8)) (M X : SV) (f W E : Int) : TM := [(0, .v (.l (.l .s)) (Za1 pss)), (1, .v (.l (.l .s)) b), (2, .v (.l .s) v), (7, M), (9, X), (10, .v (.i .i64) f), (11, .v (.l (.l .s)) (Za1 (trD 0 (ZbM pss) pss))), (12, .v (.i .i64) (0 : Int)), (13, .v (.i .i64) W), (14, .v (.i .i64) E)]
def c37 (pss : List (List Rat)) (b : List (List (List UInt8))) (M : SV) (W : Int) : TM := [(0, .v (.l (.l .s)) (Za1 pss)), (1, .v (.l (.l .s)) b), (7, M), (13, .v (.i .i64) W)]
set_option maxHeartbeats 16000000 in
theorem Zwr (pss : List (List Rat)) (b : List (List (List UInt8))) (M : SV) (W : Int) (hr : ∀ ps ∈ pss, ps.length = ZbM pss) (hl : pss.length ≤ 40) (hf : ∀ ps ∈ pss, ∀ p ∈ ps, ZgG p = true) (s2 : ∀ ps ∈ pss, ps.length ≤ 6) (s3 : ∀ ps ∈ pss, ∀ p ∈ ps, dz p 12)
 (hB : ∀ qss, Mat b qss → qss.length ≤ 6 ∧ (∀ ps ∈ qss, ps.length ≤ 6) ∧ ∀ ps ∈ qss, ∀ p ∈ ps, dz p 12) (rM : ZjY 0 (ZdL M) = true)
 (hY : decide (W = 0) = false ∨ (∃ qss, Mat b qss ∧ ZbM pss = qss.length ∧ M = .v (.l (.l .s)) (Za1 (Zc4 pss qss)) ∧ W = 0)) :
 CodeOK Tryz.prog Zat 0 Zug (Zis 16 (Zcp Tryz.f4)) (c37 pss b M W) [] Zqs := by
 refine ZaF (ZaR Zaj ?_)
 rcases hY with hY | ⟨qss, hN, hw, rfl, rfl⟩
 ·have hn : (!decide (W = 0)) = true := by rw [hY]; rfl
  exact And.intro (fun _ => rfl) (fun h => (nf hn h).elim)
 ·refine And.intro (fun h => nomatch h) (fun _ => ?_)
  have hml : (!decide ((((Za1 (Zc4 pss qss)).length : Nat) : Int) = (((Za1 pss).length : Nat) : Int))) = false := by
   rw [Za1, Zc4, List.length_map, List.length_map, Za1, List.length_map, decide_eq_true rfl]
   rfl
  obtain ⟨b1, b2, b3⟩ := hB qss hN
  obtain ⟨rfl, qf, ql, qr, qw⟩ := hN
  refine ZaF (ZaR Zaj ?_)
  refine And.intro (fun h => (nf h hml).elim) (fun _ => ?_)
  refine ZaF (ZaR Zaj ?_)
  refine ((ZwR pss qss (fun ps hp => (hr ps hp).trans hw) qr hl ql qw s3 b3).ent (Za7 ⟨rfl, rfl, rfl, rfl, rfl, rfl, rfl, rfl, rfl, rfl, rfl, rfl, trivial⟩)).mono ?_
  rintro _ _ _ ⟨rfl, Z, rfl, rfl⟩
  refine ZaF (ZaR Zaj ?_)
  refine ZaR Zaj ?_
  rfl
set_option maxHeartbeats 16000000 in
theorem Zom (pss : List (List Rat)) (b : List (List (List UInt8))) (v : List (List UInt8)) (M X : SV) (f W E : Int) (hM : Mat (Za1 pss) pss) (rM : ZjY 0 (ZdL M) = true) (rX : ZjY 0 (ZdL X) = true)
 (hW : decide (W = 0) = false ∨ (∃ qss, Mat b qss ∧ ZbM pss = qss.length ∧ M = .v (.l (.l .s)) (Za1 (Zc4 pss qss)) ∧ W = 0) ∨ Zcu 6 [Za1 pss, b, [v]] = true)
 (hE : decide (E = 0) = false ∨ (∃ qs, v = qs.map ZaK ∧ qs.length ≤ 40 ∧ (∀ ps ∈ pss, ps.length = qs.length) ∧ X = .v (.l .s) ((pss.map fun ps => ZbU ps qs).map ZaK) ∧ f = 0 ∧ E = 0) ∨ Zcu 6 [Za1 pss, b, [v]] = true) :
 CodeOK Tryz.prog Zat 0 Zug (Zis 12 (Zcp Tryz.f4)) (c18 pss b v M X f W E) [] Zqs := by
 have h3v := Zq9 (Za1 pss) b v
 have cW := Zg7 (Za1 pss)
 have htw : (!decide ((((Za1 (trD 0 (ZbM pss) pss)).length : Nat) : Int) = ((wid (Za1 pss) : Nat) : Int))) = false := by
  rw [Zhq, Za1, List.length_map, Zgh, decide_eq_true rfl]
  rfl
 refine ZaF (ZaR Zaj ?_)
 cases vv : Zcu 6 [Za1 pss, b, [v]] with
 | true =>
  repeat (first | refine Zak ?_ | refine Zaf ?_ | refine Zac ?_)
  first | refine Zab (Zaa (id := 18) rfl ?_) | refine Zab (Zab (Zaa (id := 18) rfl ?_)) | refine Zaa (id := 18) rfl ?_ | refine Zab (Zad rfl (Zab (Zaa (id := 18) rfl ?_))) | refine Zad rfl (Zab (Zaa (id := 18) rfl ?_))
  refine Zah rfl (fun _ => rfl) rfl rfl ?_
  refine Zah rfl (fun _ => rfl) rfl rfl ?_
  refine Zah rfl (fun _ => rfl) rfl rfl ?_
  refine ZjR rfl (fun _ => rfl) rfl rfl ?_
  refine ZjR rfl (fun _ => rfl) rfl rfl ?_
  refine ZbW rfl (And.intro (show 0 + 3 ≤ 3 by decide) (And.intro (show 0 + 1 ≤ 1 by decide) ((h3v).mono ?_)))
  rintro _ rfl
  refine ZaG rfl rfl ?_
  refine Zah rfl (fun _ => rfl) rfl rfl ?_
  refine Zae rfl rfl rfl vv rfl rfl ?_
  refine Zae rfl rfl rfl vv rfl rfl ?_
  refine ZaB rfl rfl rfl vv rfl rfl rfl ?_
  refine Zal ?_
  repeat (first | refine Zaf ?_ | refine Zac ?_)
  exact And.intro (fun _ => rfl) (fun h => by first | (cases h; done) | exact (nf vv h).elim)
 | false =>
  rw [vv] at hW hE
  repeat (first | refine Zak ?_ | refine Zaf ?_ | refine Zac ?_)
  first | refine Zab (Zaa (id := 18) rfl ?_) | refine Zab (Zab (Zaa (id := 18) rfl ?_)) | refine Zaa (id := 18) rfl ?_ | refine Zab (Zad rfl (Zab (Zaa (id := 18) rfl ?_))) | refine Zad rfl (Zab (Zaa (id := 18) rfl ?_))
  refine Zah rfl (fun _ => rfl) rfl rfl ?_
  refine Zah rfl (fun _ => rfl) rfl rfl ?_
  refine Zah rfl (fun _ => rfl) rfl rfl ?_
  refine ZjR rfl (fun _ => rfl) rfl rfl ?_
  refine ZjR rfl (fun _ => rfl) rfl rfl ?_
  refine ZbW rfl (And.intro (show 0 + 3 ≤ 3 by decide) (And.intro (show 0 + 1 ≤ 1 by decide) ((h3v).mono ?_)))
  rintro _ rfl
  refine ZaG rfl rfl ?_
  refine Zah rfl (fun _ => rfl) rfl rfl ?_
  refine Zag rfl rfl rfl vv (fun _ => rfl) rfl rfl ?_
  refine Zag rfl rfl rfl vv (fun _ => rfl) rfl rfl ?_
  refine Zax rfl rfl rfl vv rfl rfl rfl ?_
  refine Zal ?_
  repeat (first | refine Zaf ?_ | refine Zac ?_)
  refine And.intro (fun h => nomatch h) (fun _ => ?_)
  refine ZaF (ZaR Zaj ?_)
  refine cW.mono ?_
  rintro _ rfl
  refine And.intro (fun h => (nf h htw).elim) (fun _ => ?_)
  obtain ⟨s1, s2, s3⟩ := Zfz (pss := pss) vv List.mem_cons_self
  obtain ⟨_, hf, hl, hr, hw⟩ := hM
  refine ZaF (ZaR Zaj ?_)
  refine ((ZwW pss _ _ M X f W E hr hl hw).ent (Za7 ⟨rfl, rfl, rfl, rfl, rfl, rfl, rfl, rM, rfl, rX, rfl, rfl, rfl, rfl, rfl, rfl, rfl, rfl, rfl, rfl, rfl, rfl, trivial⟩)).mono ?_
  rintro _ _ _ ⟨rfl, Z, rfl, rfl⟩
  refine ZaF (ZaR Zaj ?_)
  have hX : decide (E = 0) = false ∨ (∃ qs, v = qs.map ZaK ∧ qs.length ≤ 40 ∧ (∀ ps ∈ pss, ps.length = qs.length) ∧ X = .v (.l .s) ((pss.map fun ps => ZbU ps qs).map ZaK) ∧ f = 0 ∧ E = 0) := by
   rcases hE with h | h | h
   ·exact .inl h
   ·exact .inr h
   ·cases h
  have hY : decide (W = 0) = false ∨ (∃ qss, Mat b qss ∧ ZbM pss = qss.length ∧ M = .v (.l (.l .s)) (Za1 (Zc4 pss qss)) ∧ W = 0) := by
   rcases hW with h | h | h
   ·exact .inl h
   ·exact .inr h
   ·cases h
  clear hE hW
  have hback : CodeOK Tryz.prog Zat 0 Zug (Zis 16 (Zcp Tryz.f4)) (c37 pss b M W) [] Zqs := Zwr pss b M W hr hl hf s2 s3 (fun qss hB => Zfz (pss := qss) vv (by rw [← hB.txt]; exact List.mem_cons_of_mem _ List.mem_cons_self)) rM hY
  rcases hX with hX | ⟨qs, rfl, hq, hlen, rfl, rfl, rfl⟩
  ·refine And.intro (fun h => (nf h hX).elim) (fun _ => ?_)
   exact hback.ent (Za7 ⟨rfl, rfl, rfl, rfl, rfl, rM, rfl, rfl, trivial⟩)
  ·refine And.intro (fun _ => ?_) (fun h => nomatch h)
   obtain ⟨q1, q2⟩ := ZlJ (qs := qs) vv (by simp)
   have hxl : (!decide (((((pss.map fun ps => ZbU ps qs).map ZaK).length : Nat) : Int) = (((Za1 pss).length : Nat) : Int))) = false := by
    rw [List.length_map, List.length_map, Za1, List.length_map, decide_eq_true rfl]
    rfl
   repeat (first | refine Zak ?_ | refine Zaf ?_ | refine Zac ?_)
   first | refine Zab (Zaa (id := 29) rfl ?_) | refine Zab (Zab (Zaa (id := 29) rfl ?_)) | refine Zaa (id := 29) rfl ?_ | refine Zab (Zad rfl (Zab (Zaa (id := 29) rfl ?_))) | refine Zad rfl (Zab (Zaa (id := 29) rfl ?_))
   refine Zah rfl (fun _ => rfl) rfl rfl ?_
   refine Zah rfl (fun _ => rfl) rfl rfl ?_
   refine Zah rfl (fun _ => rfl) rfl rfl ?_
   refine Zag rfl rfl rfl rfl (fun _ => rfl) rfl rfl ?_
   refine Zag rfl rfl rfl rfl (fun _ => rfl) rfl rfl ?_
   refine Zag rfl rfl rfl rfl (fun _ => rfl) rfl rfl ?_
   refine Zag rfl rfl rfl rfl (fun _ => rfl) rfl rfl ?_
   refine Zag rfl rfl rfl rfl (fun _ => rfl) rfl rfl ?_
   refine Zax rfl rfl rfl rfl rfl rfl rfl ?_
   refine Zal ?_
   repeat (first | refine Zaf ?_ | refine Zac ?_)
   refine And.intro (fun h => by first | (cases h; done) | exact (nf h hxl).elim) (fun _ => ?_)
   refine ((Zwc pss qs _ M W hlen hl hq s3 q2).ent (Za7 ⟨rfl, rfl, rfl, rfl, rfl, rfl, rfl, rM, rfl, rfl, rfl, rfl, rfl, rfl, rfl, rfl, rfl, rfl, trivial⟩)).mono ?_
   rintro _ _ _ ⟨rfl, Z2, rfl, rfl⟩
   exact hback.ent (Za7 ⟨rfl, rfl, rfl, rfl, rfl, rM, rfl, rfl, trivial⟩)
def c13 (pss : List (List Rat)) (b : List (List (List UInt8))) (v : List (List UInt8)) (M X : SV) (f W : Int) : TM := [(0, .v (.l (.l .s)) (Za1 pss)), (1, .v (.l (.l .s)) b), (2, .v (.l .s) v), (7, M), (9, X), (10, .v (.i .i64) f), (11, .v (.l (.l .s)) (Za1 (trD 0 (ZbM pss) pss))), (12, .v (.i .i64) (0 : Int)), (13, .v (.i .i64) W)]
set_option maxHeartbeats 16000000 in
theorem Zoa (pss : List (List Rat)) (b : List (List (List UInt8))) (v : List (List UInt8)) (M X : SV) (f W : Int) (hM : Mat (Za1 pss) pss) (ha : ∀ r ∈ Za1 pss, ∀ s ∈ r, s.length ≤ 9223372036854775806) (hv : ∀ s ∈ v, s.length ≤ 9223372036854775806) (hg0 : Zba (Za1 pss) = 0) (rM : ZjY 0 (ZdL M) = true)
 (hW : decide (W = 0) = false ∨ (∃ qss, Mat b qss ∧ ZbM pss = qss.length ∧ M = .v (.l (.l .s)) (Za1 (Zc4 pss qss)) ∧ W = 0) ∨ Zcu 6 [Za1 pss, b, [v]] = true) (hac : ApC (Za1 pss) b v pss X f) :
 CodeOK Tryz.prog Zat 0 Zug (Zis 9 (Zcp Tryz.f4)) (c13 pss b v M X f W) [] Zqs := by
 have cA := Zdu (Za1 pss) ha
 have cV := Zga v hv
 have cW := Zg7 (Za1 pss)
 have hz0 : decide ((0 : Int) < 0) = false := rfl
 have gV := ZfE (Zba (Za1 pss)) (Zcy v)
 rw [hg0] at cA
 rw [hg0, Znt] at gV
 refine ZaF (ZaR Zaj ?_)
 refine cA.mono ?_
 rintro _ rfl
 refine cV.mono ?_
 rintro _ rfl
 refine And.intro (show 0 + 2 ≤ 2 by decide) ?_
 refine gV.mono ?_
 rintro _ rfl
 refine ZaF (ZaR Zaj ?_)
 rcases hac with ⟨d2, rfl, rfl⟩ | ⟨d2, g2, u2, rfl, rfl⟩ | ⟨d2, gu, qs, hqs, hql, hlen, rfl, rfl⟩ | ⟨d2, gu, rfl, rfl, hv3⟩
 ·have hn2 : (!decide (Zcy v = 0)) = true := by rw [d2]; rfl
  have hVV : (!decide (Zcy v = Zcy v)) = false := by rw [decide_eq_true rfl]; rfl
  repeat (first | refine Zak ?_ | refine Zaf ?_ | refine Zac ?_)
  first | refine Zab (Zaa (id := 14) rfl ?_) | refine Zab (Zab (Zaa (id := 14) rfl ?_)) | refine Zaa (id := 14) rfl ?_ | refine Zab (Zad rfl (Zab (Zaa (id := 14) rfl ?_))) | refine Zad rfl (Zab (Zaa (id := 14) rfl ?_))
  refine Zah rfl (fun _ => rfl) rfl rfl ?_
  refine Zah rfl (fun _ => rfl) rfl rfl ?_
  refine Zah rfl (fun _ => rfl) rfl rfl ?_
  refine Zae rfl rfl rfl d2 rfl rfl ?_
  refine Zae rfl rfl rfl d2 rfl rfl ?_
  refine Zae rfl rfl rfl d2 rfl rfl ?_
  refine Zax rfl rfl rfl d2 rfl rfl rfl ?_
  refine Zah rfl (fun _ => rfl) rfl rfl ?_
  refine Zae rfl rfl rfl rfl rfl rfl ?_
  refine Zae rfl rfl rfl rfl rfl rfl ?_
  refine Zae rfl rfl rfl rfl rfl rfl ?_
  refine Zae rfl rfl rfl rfl rfl rfl ?_
  refine Zae rfl rfl rfl rfl rfl rfl ?_
  refine Zax rfl rfl rfl rfl rfl rfl rfl ?_
  refine Zal ?_
  repeat (first | refine Zaf ?_ | refine Zac ?_)
  refine And.intro (fun h => by first | (cases h; done) | exact (nf h d2).elim) (fun _ => ?_)
  refine ZaF (ZaR Zaj ?_)
  repeat (first | refine Zak ?_ | refine Zaf ?_ | refine Zac ?_)
  first | refine Zab (Zaa (id := 16) rfl ?_) | refine Zab (Zab (Zaa (id := 16) rfl ?_)) | refine Zaa (id := 16) rfl ?_ | refine Zab (Zad rfl (Zab (Zaa (id := 16) rfl ?_))) | refine Zad rfl (Zab (Zaa (id := 16) rfl ?_))
  refine Zah rfl (fun _ => rfl) rfl rfl ?_
  refine Zah rfl (fun _ => rfl) rfl rfl ?_
  refine Zah rfl (fun _ => rfl) rfl rfl ?_
  refine Zag rfl rfl rfl hn2 (fun _ => rfl) rfl rfl ?_
  refine Zag rfl rfl rfl hn2 (fun _ => rfl) rfl rfl ?_
  refine Zag rfl rfl rfl hn2 (fun _ => rfl) rfl rfl ?_
  refine Zag rfl rfl rfl hn2 (fun _ => rfl) rfl rfl ?_
  refine Zag rfl rfl rfl hVV (fun _ => rfl) rfl rfl ?_
  refine Zag rfl rfl rfl hVV (fun _ => rfl) rfl rfl ?_
  refine Zag rfl rfl rfl hVV (fun _ => rfl) rfl rfl ?_
  refine Zbz rfl rfl rfl hn2 rfl rfl hVV rfl rfl rfl ?_
  refine ZaB rfl rfl rfl hn2 rfl rfl rfl ?_
  refine Zal ?_
  repeat (first | refine Zaf ?_ | refine Zac ?_)
  refine And.intro (fun h => by first | (cases h; done) | exact (nf h hz0).elim) (fun _ => ?_)
  exact (Zom pss b v M .nils _ W _ hM rM rfl hW (.inl d2)).ent (Za7 ⟨rfl, rfl, rfl, rfl, rfl, rfl, rfl, rM, rfl, rfl, rfl, rfl, rfl, rfl, rfl, rfl, rfl, rfl, rfl, rfl, trivial⟩)
 ·rw [d2]
  repeat (first | refine Zak ?_ | refine Zaf ?_ | refine Zac ?_)
  first | refine Zab (Zaa (id := 14) rfl ?_) | refine Zab (Zab (Zaa (id := 14) rfl ?_)) | refine Zaa (id := 14) rfl ?_ | refine Zab (Zad rfl (Zab (Zaa (id := 14) rfl ?_))) | refine Zad rfl (Zab (Zaa (id := 14) rfl ?_))
  refine Zah rfl (fun _ => rfl) rfl rfl ?_
  refine Zah rfl (fun _ => rfl) rfl rfl ?_
  refine Zah rfl (fun _ => rfl) rfl rfl ?_
  refine Zag rfl rfl rfl rfl (fun _ => rfl) rfl rfl ?_
  refine Zag rfl rfl rfl rfl (fun _ => rfl) rfl rfl ?_
  refine Zag rfl rfl rfl rfl (fun _ => rfl) rfl rfl ?_
  refine ZaB rfl rfl rfl rfl rfl rfl rfl ?_
  refine Zah rfl (fun _ => rfl) rfl rfl ?_
  refine Zag rfl rfl rfl g2 (fun _ => rfl) rfl rfl ?_
  refine Za8 rfl rfl rfl g2 ((cW).mono ?_)
  rintro _ rfl
  refine ZaG rfl rfl ?_
  refine Zag rfl rfl rfl g2 (fun _ => rfl) rfl rfl ?_
  refine Zag rfl rfl rfl g2 (fun _ => rfl) rfl rfl ?_
  refine Zag rfl rfl rfl g2 (fun _ => rfl) rfl rfl ?_
  refine ZaB rfl rfl rfl g2 rfl rfl rfl ?_
  refine Zal ?_
  repeat (first | refine Zaf ?_ | refine Zac ?_)
  refine And.intro (fun _ => ?_) (fun h => by first | (cases h; done) | exact (nf u2 h).elim)
  refine ZaF (ZaR Zaj ?_)
  repeat (first | refine Zak ?_ | refine Zaf ?_ | refine Zac ?_)
  first | refine Zab (Zaa (id := 16) rfl ?_) | refine Zab (Zab (Zaa (id := 16) rfl ?_)) | refine Zaa (id := 16) rfl ?_ | refine Zab (Zad rfl (Zab (Zaa (id := 16) rfl ?_))) | refine Zad rfl (Zab (Zaa (id := 16) rfl ?_))
  refine Zah rfl (fun _ => rfl) rfl rfl ?_
  refine Zah rfl (fun _ => rfl) rfl rfl ?_
  refine Zah rfl (fun _ => rfl) rfl rfl ?_
  refine Zag rfl rfl rfl rfl (fun _ => rfl) rfl rfl ?_
  refine Zag rfl rfl rfl rfl (fun _ => rfl) rfl rfl ?_
  refine Zag rfl rfl rfl rfl (fun _ => rfl) rfl rfl ?_
  refine Zag rfl rfl rfl rfl (fun _ => rfl) rfl rfl ?_
  refine Zag rfl rfl rfl rfl (fun _ => rfl) rfl rfl ?_
  refine Zag rfl rfl rfl rfl (fun _ => rfl) rfl rfl ?_
  refine Zag rfl rfl rfl rfl (fun _ => rfl) rfl rfl ?_
  refine Zbz rfl rfl rfl rfl rfl rfl rfl rfl rfl rfl ?_
  refine ZaB rfl rfl rfl rfl rfl rfl rfl ?_
  refine Zal ?_
  repeat (first | refine Zaf ?_ | refine Zac ?_)
  refine And.intro (fun h => by first | (cases h; done) | exact (nf h hz0).elim) (fun _ => ?_)
  exact (Zom pss b v M .nils _ W 3 hM rM rfl hW (.inl rfl)).ent (Za7 ⟨rfl, rfl, rfl, rfl, rfl, rfl, rfl, rM, rfl, rfl, rfl, rfl, rfl, rfl, rfl, rfl, rfl, rfl, rfl, rfl, trivial⟩)
 all_goals
  rw [d2]
  have gs : decide ((0 : Int) < ((Za1 pss).length : Int)) = false ∨ (decide ((0 : Int) < ((Za1 pss).length : Int)) = true ∧ (!decide (((wid (Za1 pss) : Nat) : Int) = (v.length : Int))) = false) := by
   cases h1 : decide ((0 : Int) < ((Za1 pss).length : Int)) with
   | false => exact .inl rfl
   | true => rw [h1, Bool.true_and] at gu; exact .inr ⟨rfl, gu⟩
  rcases gs with g3 | ⟨g3, u3⟩
  repeat (first | refine Zak ?_ | refine Zaf ?_ | refine Zac ?_)
  first | refine Zab (Zaa (id := 14) rfl ?_) | refine Zab (Zab (Zaa (id := 14) rfl ?_)) | refine Zaa (id := 14) rfl ?_ | refine Zab (Zad rfl (Zab (Zaa (id := 14) rfl ?_))) | refine Zad rfl (Zab (Zaa (id := 14) rfl ?_))
  refine Zah rfl (fun _ => rfl) rfl rfl ?_
  refine Zah rfl (fun _ => rfl) rfl rfl ?_
  refine Zah rfl (fun _ => rfl) rfl rfl ?_
  refine Zag rfl rfl rfl rfl (fun _ => rfl) rfl rfl ?_
  refine Zag rfl rfl rfl rfl (fun _ => rfl) rfl rfl ?_
  refine Zag rfl rfl rfl rfl (fun _ => rfl) rfl rfl ?_
  refine ZaB rfl rfl rfl rfl rfl rfl rfl ?_
  refine Zah rfl (fun _ => rfl) rfl rfl ?_
  refine Zae rfl rfl rfl g3 rfl rfl ?_
  refine Zae rfl rfl rfl g3 rfl rfl ?_
  refine Zae rfl rfl rfl g3 rfl rfl ?_
  refine Zae rfl rfl rfl g3 rfl rfl ?_
  refine Zae rfl rfl rfl g3 rfl rfl ?_
  refine Zax rfl rfl rfl g3 rfl rfl rfl ?_
  refine Zal ?_
  repeat (first | refine Zaf ?_ | refine Zac ?_)
  refine And.intro (fun h => by first | (cases h; done) | exact (nf h g3).elim) (fun _ => ?_)
  rotate_left 1
  repeat (first | refine Zak ?_ | refine Zaf ?_ | refine Zac ?_)
  first | refine Zab (Zaa (id := 14) rfl ?_) | refine Zab (Zab (Zaa (id := 14) rfl ?_)) | refine Zaa (id := 14) rfl ?_ | refine Zab (Zad rfl (Zab (Zaa (id := 14) rfl ?_))) | refine Zad rfl (Zab (Zaa (id := 14) rfl ?_))
  refine Zah rfl (fun _ => rfl) rfl rfl ?_
  refine Zah rfl (fun _ => rfl) rfl rfl ?_
  refine Zah rfl (fun _ => rfl) rfl rfl ?_
  refine Zag rfl rfl rfl rfl (fun _ => rfl) rfl rfl ?_
  refine Zag rfl rfl rfl rfl (fun _ => rfl) rfl rfl ?_
  refine Zag rfl rfl rfl rfl (fun _ => rfl) rfl rfl ?_
  refine ZaB rfl rfl rfl rfl rfl rfl rfl ?_
  refine Zah rfl (fun _ => rfl) rfl rfl ?_
  refine Zag rfl rfl rfl g3 (fun _ => rfl) rfl rfl ?_
  refine Za8 rfl rfl rfl g3 ((cW).mono ?_)
  rintro _ rfl
  refine ZaG rfl rfl ?_
  refine Zag rfl rfl rfl g3 (fun _ => rfl) rfl rfl ?_
  refine Zag rfl rfl rfl g3 (fun _ => rfl) rfl rfl ?_
  refine Zag rfl rfl rfl g3 (fun _ => rfl) rfl rfl ?_
  refine ZaB rfl rfl rfl g3 rfl rfl rfl ?_
  refine Zal ?_
  repeat (first | refine Zaf ?_ | refine Zac ?_)
  refine And.intro (fun h => by first | (cases h; done) | exact (nf h u3).elim) (fun _ => ?_)
  rotate_left 1
  all_goals
   refine ZaF (ZaR Zaj ?_)
   repeat (first | refine Zak ?_ | refine Zaf ?_ | refine Zac ?_)
   first | refine Zab (Zaa (id := 16) rfl ?_) | refine Zab (Zab (Zaa (id := 16) rfl ?_)) | refine Zaa (id := 16) rfl ?_ | refine Zab (Zad rfl (Zab (Zaa (id := 16) rfl ?_))) | refine Zad rfl (Zab (Zaa (id := 16) rfl ?_))
   refine Zah rfl (fun _ => rfl) rfl rfl ?_
   refine Zah rfl (fun _ => rfl) rfl rfl ?_
   refine Zah rfl (fun _ => rfl) rfl rfl ?_
   refine Zae rfl rfl rfl rfl rfl rfl ?_
   refine Zae rfl rfl rfl rfl rfl rfl ?_
   refine Zae rfl rfl rfl rfl rfl rfl ?_
   refine Zae rfl rfl rfl rfl rfl rfl ?_
   refine Zaw rfl rfl rfl rfl rfl ?_
   refine Zaw rfl rfl rfl rfl rfl ?_
   refine Zaw rfl rfl rfl rfl rfl ?_
   refine Zae rfl rfl rfl rfl rfl rfl ?_
   refine Zax rfl rfl rfl rfl rfl rfl rfl ?_
   refine Zal ?_
   repeat (first | refine Zaf ?_ | refine Zac ?_)
   refine And.intro (fun h => by first | (cases h; done) | exact (nf h hz0).elim) (fun _ => ?_)
   first
    | exact (Zom pss b v M _ _ W 0 hM rM rfl hW (.inr (.inl ⟨qs, hqs, hql, hlen, rfl, rfl, rfl⟩))).ent (Za7 ⟨rfl, rfl, rfl, rfl, rfl, rfl, rfl, rM, rfl, rfl, rfl, rfl, rfl, rfl, rfl, rfl, rfl, rfl, rfl, rfl, trivial⟩)
    | exact (Zom pss b v M .nils _ W 0 hM rM rfl hW (.inr (.inr hv3))).ent (Za7 ⟨rfl, rfl, rfl, rfl, rfl, rfl, rfl, rM, rfl, rfl, rfl, rfl, rfl, rfl, rfl, rfl, rfl, rfl, rfl, rfl, trivial⟩)
set_option maxHeartbeats 16000000 in
theorem Zg0 (a b : List (List (List UInt8))) (v : List (List UInt8)) (ha : ∀ r ∈ a, ∀ s ∈ r, s.length ≤ 9223372036854775806) (hb : ∀ r ∈ b, ∀ s ∈ r, s.length ≤ 9223372036854775806) (hv : ∀ s ∈ v, s.length ≤ 9223372036854775806) : PureOK Tryz.prog Zat 4 [.v (.l (.l .s)) a, .v (.l (.l .s)) b, .v (.l .s) v] (fun V => V = .v .b true) := by
 refine Zpd (fn := Tryz.f4) (code := Zcp Tryz.f4) Zaj (by kernel_rfl) rfl Tryz.func4 (by kernel_rfl) (Nat.le_of_ble_eq_true (by kernel_rfl)) ?_
 show CodeOK Tryz.prog Zat 0 Zug (Zcp Tryz.f4) [(0, .v (.l (.l .s)) a), (1, .v (.l (.l .s)) b), (2, .v (.l .s) v)] [] Zqs
 have cA := Zdu a ha
 have cB := Zdu b hb
 have cV := Zga v hv
 have cW := Zg7 a
 have h2v := ZuK a b
 have h3v := Zq9 a b v
 have hz0 : decide ((0 : Int) < 0) = false := rfl
 refine ZaF (ZaR Zaj ?_)
 refine ZaF (ZaR Zaj ?_)
 refine Zk5.mono ?_
 rintro _ rfl
 refine And.intro (fun h => nomatch h) (fun _ => ?_)
 refine ZaF (ZaR Zaj ?_)
 refine (Zwd a b ha hb).mono ?_
 intro V1 h1
 cases hg : decide (Zba a = 0) with
 | false =>
  obtain rfl := ZuJ hg h1
  refine ZaF (ZaR Zaj ?_)
  refine (Zr2 a v ha hv).mono ?_
  intro V2 h2
  obtain rfl := ZwT hg h2
  refine ZaF (ZaR Zaj ?_)
  refine (Zhs a ha).mono ?_
  intro V3 h3
  obtain rfl : V3 = .tup [.nils, .v (.i .i64) (Zba a)] := by
   rcases h3 with ⟨_, h⟩ | ⟨h, _⟩
   ·exact h
   ·exact absurd h (of_decide_eq_false hg)
  have gF := ZfE (Zba a) (Zba b)
  have gV := ZfE (Zba a) (Zcy v)
  rw [Zp8 hg] at gF gV
  obtain ⟨G, eG⟩ : ∃ x, Zba a = x := ⟨_, rfl⟩
  rw [eG] at gF gV hg cA ⊢
  have hGG : (!decide (G = G)) = false := by rw [decide_eq_true rfl]; rfl
  have hnz : (!decide (G = 0)) = true := by rw [hg]; rfl
  refine ZaF (ZaR Zaj ?_)
  refine cA.mono ?_
  rintro _ rfl
  refine And.intro (fun h => (nf h hGG).elim) (fun _ => ?_)
  refine ZaF (ZaR Zaj ?_)
  refine cA.mono ?_
  rintro _ rfl
  refine cB.mono ?_
  rintro _ rfl
  refine And.intro (show 0 + 2 ≤ 2 by decide) ?_
  refine gF.mono ?_
  rintro _ rfl
  refine ZaF (ZaR Zaj ?_)
  repeat (first | refine Zak ?_ | refine Zaf ?_ | refine Zac ?_)
  first | refine Zab (Zaa (id := 9) rfl ?_) | refine Zab (Zab (Zaa (id := 9) rfl ?_)) | refine Zaa (id := 9) rfl ?_ | refine Zab (Zad rfl (Zab (Zaa (id := 9) rfl ?_))) | refine Zad rfl (Zab (Zaa (id := 9) rfl ?_))
  refine Zah rfl (fun _ => rfl) rfl rfl ?_
  refine Zah rfl (fun _ => rfl) rfl rfl ?_
  refine Zah rfl (fun _ => rfl) rfl rfl ?_
  refine Zae rfl rfl rfl hg rfl rfl ?_
  refine Zae rfl rfl rfl hg rfl rfl ?_
  refine Zae rfl rfl rfl hg rfl rfl ?_
  refine Zae rfl rfl rfl hg rfl rfl ?_
  refine Zae rfl rfl rfl hg rfl rfl ?_
  refine Zax rfl rfl rfl hg rfl rfl rfl ?_
  refine Zal ?_
  repeat (first | refine Zaf ?_ | refine Zac ?_)
  refine And.intro (fun h => by first | (cases h; done) | exact (nf h hg).elim) (fun _ => ?_)
  refine ZaF (ZaR Zaj ?_)
  repeat (first | refine Zak ?_ | refine Zaf ?_ | refine Zac ?_)
  first | refine Zab (Zaa (id := 11) rfl ?_) | refine Zab (Zab (Zaa (id := 11) rfl ?_)) | refine Zaa (id := 11) rfl ?_ | refine Zab (Zad rfl (Zab (Zaa (id := 11) rfl ?_))) | refine Zad rfl (Zab (Zaa (id := 11) rfl ?_))
  refine Zah rfl (fun _ => rfl) rfl rfl ?_
  refine Zah rfl (fun _ => rfl) rfl rfl ?_
  refine Zah rfl (fun _ => rfl) rfl rfl ?_
  refine Zah rfl (fun _ => rfl) rfl rfl ?_
  refine Zae rfl rfl rfl hGG rfl rfl ?_
  refine Zae rfl rfl rfl hGG rfl rfl ?_
  refine Zae rfl rfl rfl hGG rfl rfl ?_
  refine Zae rfl rfl rfl hGG rfl rfl ?_
  refine Zae rfl rfl rfl hGG rfl rfl ?_
  refine Zax rfl rfl rfl hGG rfl rfl rfl ?_
  refine Zah rfl (fun _ => rfl) rfl rfl ?_
  refine Zag rfl rfl rfl rfl (fun _ => rfl) rfl rfl ?_
  refine Zag rfl rfl rfl rfl (fun _ => rfl) rfl rfl ?_
  refine Zag rfl rfl rfl rfl (fun _ => rfl) rfl rfl ?_
  refine Zag rfl rfl rfl hnz (fun _ => rfl) rfl rfl ?_
  refine Zag rfl rfl rfl hnz (fun _ => rfl) rfl rfl ?_
  refine Zag rfl rfl rfl hnz (fun _ => rfl) rfl rfl ?_
  refine Zag rfl rfl rfl hnz (fun _ => rfl) rfl rfl ?_
  refine Zag rfl rfl rfl hGG (fun _ => rfl) rfl rfl ?_
  refine Zag rfl rfl rfl hGG (fun _ => rfl) rfl rfl ?_
  refine Zag rfl rfl rfl hGG (fun _ => rfl) rfl rfl ?_
  refine Zbz rfl rfl rfl hnz rfl rfl hGG rfl rfl rfl ?_
  refine Zb0 rfl rfl rfl rfl rfl rfl hnz rfl rfl rfl ?_
  refine Zax rfl rfl rfl rfl rfl rfl rfl ?_
  refine Zal ?_
  repeat (first | refine Zaf ?_ | refine Zac ?_)
  refine And.intro (fun h => by first | (cases h; done) | exact (nf h hz0).elim) (fun _ => ?_)
  refine ZaF (ZaR Zaj ?_)
  refine cA.mono ?_
  rintro _ rfl
  refine cV.mono ?_
  rintro _ rfl
  refine And.intro (show 0 + 2 ≤ 2 by decide) ?_
  refine gV.mono ?_
  rintro _ rfl
  refine ZaF (ZaR Zaj ?_)
  repeat (first | refine Zak ?_ | refine Zaf ?_ | refine Zac ?_)
  first | refine Zab (Zaa (id := 14) rfl ?_) | refine Zab (Zab (Zaa (id := 14) rfl ?_)) | refine Zaa (id := 14) rfl ?_ | refine Zab (Zad rfl (Zab (Zaa (id := 14) rfl ?_))) | refine Zad rfl (Zab (Zaa (id := 14) rfl ?_))
  refine Zah rfl (fun _ => rfl) rfl rfl ?_
  refine Zah rfl (fun _ => rfl) rfl rfl ?_
  refine Zah rfl (fun _ => rfl) rfl rfl ?_
  refine Zae rfl rfl rfl hg rfl rfl ?_
  refine Zae rfl rfl rfl hg rfl rfl ?_
  refine Zae rfl rfl rfl hg rfl rfl ?_
  refine Zax rfl rfl rfl hg rfl rfl rfl ?_
  refine Zah rfl (fun _ => rfl) rfl rfl ?_
  refine Zae rfl rfl rfl rfl rfl rfl ?_
  refine Zae rfl rfl rfl rfl rfl rfl ?_
  refine Zae rfl rfl rfl rfl rfl rfl ?_
  refine Zae rfl rfl rfl rfl rfl rfl ?_
  refine Zae rfl rfl rfl rfl rfl rfl ?_
  refine Zax rfl rfl rfl rfl rfl rfl rfl ?_
  refine Zal ?_
  repeat (first | refine Zaf ?_ | refine Zac ?_)
  refine And.intro (fun h => by first | (cases h; done) | exact (nf h hg).elim) (fun _ => ?_)
  refine ZaF (ZaR Zaj ?_)
  repeat (first | refine Zak ?_ | refine Zaf ?_ | refine Zac ?_)
  first | refine Zab (Zaa (id := 16) rfl ?_) | refine Zab (Zab (Zaa (id := 16) rfl ?_)) | refine Zaa (id := 16) rfl ?_ | refine Zab (Zad rfl (Zab (Zaa (id := 16) rfl ?_))) | refine Zad rfl (Zab (Zaa (id := 16) rfl ?_))
  refine Zah rfl (fun _ => rfl) rfl rfl ?_
  refine Zah rfl (fun _ => rfl) rfl rfl ?_
  refine Zah rfl (fun _ => rfl) rfl rfl ?_
  refine Zag rfl rfl rfl hnz (fun _ => rfl) rfl rfl ?_
  refine Zag rfl rfl rfl hnz (fun _ => rfl) rfl rfl ?_
  refine Zag rfl rfl rfl hnz (fun _ => rfl) rfl rfl ?_
  refine Zag rfl rfl rfl hnz (fun _ => rfl) rfl rfl ?_
  refine Zag rfl rfl rfl hGG (fun _ => rfl) rfl rfl ?_
  refine Zag rfl rfl rfl hGG (fun _ => rfl) rfl rfl ?_
  refine Zag rfl rfl rfl hGG (fun _ => rfl) rfl rfl ?_
  refine Zbz rfl rfl rfl hnz rfl rfl hGG rfl rfl rfl ?_
  refine ZaB rfl rfl rfl hnz rfl rfl rfl ?_
  refine Zal ?_
  repeat (first | refine Zaf ?_ | refine Zac ?_)
  refine And.intro (fun h => by first | (cases h; done) | exact (nf h hz0).elim) (fun _ => ?_)
  refine ZaF (ZaR Zaj ?_)
  cases hvv : Zcu 6 [a, b, [v]] with
  | true =>
   repeat (first | refine Zak ?_ | refine Zaf ?_ | refine Zac ?_)
   first | refine Zab (Zaa (id := 18) rfl ?_) | refine Zab (Zab (Zaa (id := 18) rfl ?_)) | refine Zaa (id := 18) rfl ?_ | refine Zab (Zad rfl (Zab (Zaa (id := 18) rfl ?_))) | refine Zad rfl (Zab (Zaa (id := 18) rfl ?_))
   refine Zah rfl (fun _ => rfl) rfl rfl ?_
   refine Zah rfl (fun _ => rfl) rfl rfl ?_
   refine Zah rfl (fun _ => rfl) rfl rfl ?_
   refine ZjR rfl (fun _ => rfl) rfl rfl ?_
   refine ZjR rfl (fun _ => rfl) rfl rfl ?_
   refine ZbW rfl (And.intro (show 0 + 3 ≤ 3 by decide) (And.intro (show 0 + 1 ≤ 1 by decide) ((h3v).mono ?_)))
   rintro _ rfl
   refine ZaG rfl rfl ?_
   refine Zah rfl (fun _ => rfl) rfl rfl ?_
   refine Zae rfl rfl rfl hvv rfl rfl ?_
   refine Zae rfl rfl rfl hvv rfl rfl ?_
   refine ZaB rfl rfl rfl hvv rfl rfl rfl ?_
   refine Zal ?_
   repeat (first | refine Zaf ?_ | refine Zac ?_)
   exact And.intro (fun _ => rfl) (fun h => by first | (cases h; done) | exact (nf hvv h).elim)
  | false =>
   repeat (first | refine Zak ?_ | refine Zaf ?_ | refine Zac ?_)
   first | refine Zab (Zaa (id := 18) rfl ?_) | refine Zab (Zab (Zaa (id := 18) rfl ?_)) | refine Zaa (id := 18) rfl ?_ | refine Zab (Zad rfl (Zab (Zaa (id := 18) rfl ?_))) | refine Zad rfl (Zab (Zaa (id := 18) rfl ?_))
   refine Zah rfl (fun _ => rfl) rfl rfl ?_
   refine Zah rfl (fun _ => rfl) rfl rfl ?_
   refine Zah rfl (fun _ => rfl) rfl rfl ?_
   refine ZjR rfl (fun _ => rfl) rfl rfl ?_
   refine ZjR rfl (fun _ => rfl) rfl rfl ?_
   refine ZbW rfl (And.intro (show 0 + 3 ≤ 3 by decide) (And.intro (show 0 + 1 ≤ 1 by decide) ((h3v).mono ?_)))
   rintro _ rfl
   refine ZaG rfl rfl ?_
   refine Zah rfl (fun _ => rfl) rfl rfl ?_
   refine Zag rfl rfl rfl hvv (fun _ => rfl) rfl rfl ?_
   refine Zag rfl rfl rfl hvv (fun _ => rfl) rfl rfl ?_
   refine Zax rfl rfl rfl hvv rfl rfl rfl ?_
   refine Zal ?_
   repeat (first | refine Zaf ?_ | refine Zac ?_)
   exact And.intro (fun _ => rfl) (fun h => by first | (cases h; done) | exact (nf hnz h).elim)
 | true =>
  have hg0 : Zba a = 0 := of_decide_eq_true hg
  obtain ⟨pss, hM⟩ := ZdO hg0
  obtain rfl := hM.txt
  obtain ⟨M, e, rfl, hmc⟩ := ZtB hg0 hM h1
  refine ZaF (ZaR Zaj ?_)
  refine (Zr2 (Za1 pss) v ha hv).mono ?_
  intro V2 h2
  obtain ⟨X, f, rfl, hac⟩ := Zvx (b := b) hg0 hM h2
  refine ZaF (ZaR Zaj ?_)
  refine (Zhs (Za1 pss) ha).mono ?_
  intro V3 h3
  obtain rfl : V3 = .tup [.v (.l (.l .s)) (Za1 (trD 0 (ZbM pss) pss)), .v (.i .i64) (0 : Int)] := by
   rcases h3 with ⟨h, _⟩ | ⟨_, p2, hp, h⟩
   ·exact absurd hg0 (of_decide_eq_false h)
   ·obtain rfl := hM.uniq hp
    exact h
  have gF := ZfE (Zba (Za1 pss)) (Zba b)
  rw [hg0] at cA
  rw [hg0, Znt] at gF
  have rX : ZjY 0 (ZdL X) = true := by
   rcases hac with ⟨_, rfl, _⟩ | ⟨_, _, _, rfl, _⟩ | ⟨_, _, _, _, _, _, rfl, _⟩ | ⟨_, _, rfl, _, _⟩ <;> rfl
  refine ZaF (ZaR Zaj ?_)
  refine cA.mono ?_
  rintro _ rfl
  refine And.intro (fun h => nomatch h) (fun _ => ?_)
  refine ZaF (ZaR Zaj ?_)
  refine cA.mono ?_
  rintro _ rfl
  refine cB.mono ?_
  rintro _ rfl
  refine And.intro (show 0 + 2 ≤ 2 by decide) ?_
  refine gF.mono ?_
  rintro _ rfl
  refine ZaF (ZaR Zaj ?_)
  rcases hmc with ⟨d, rfl, rfl⟩ | ⟨d, u, rfl, rfl⟩ | ⟨d, u, qss, hN, hwq, rfl, rfl⟩ | ⟨d, u, rfl, rfl, hvs⟩
  ·have hnn : (!decide (Zba b = 0)) = true := by rw [d]; rfl
   have hFF : (!decide (Zba b = Zba b)) = false := by rw [decide_eq_true rfl]; rfl
   repeat (first | refine Zak ?_ | refine Zaf ?_ | refine Zac ?_)
   first | refine Zab (Zaa (id := 9) rfl ?_) | refine Zab (Zab (Zaa (id := 9) rfl ?_)) | refine Zaa (id := 9) rfl ?_ | refine Zab (Zad rfl (Zab (Zaa (id := 9) rfl ?_))) | refine Zad rfl (Zab (Zaa (id := 9) rfl ?_))
   refine Zah rfl (fun _ => rfl) rfl rfl ?_
   refine Zah rfl (fun _ => rfl) rfl rfl ?_
   refine Zah rfl (fun _ => rfl) rfl rfl ?_
   refine Zae rfl rfl rfl d rfl rfl ?_
   refine Zae rfl rfl rfl d rfl rfl ?_
   refine Zae rfl rfl rfl d rfl rfl ?_
   refine Zae rfl rfl rfl d rfl rfl ?_
   refine Zae rfl rfl rfl d rfl rfl ?_
   refine Zax rfl rfl rfl d rfl rfl rfl ?_
   refine Zal ?_
   repeat (first | refine Zaf ?_ | refine Zac ?_)
   refine And.intro (fun h => by first | (cases h; done) | exact (nf h d).elim) (fun _ => ?_)
   refine ZaF (ZaR Zaj ?_)
   repeat (first | refine Zak ?_ | refine Zaf ?_ | refine Zac ?_)
   first | refine Zab (Zaa (id := 11) rfl ?_) | refine Zab (Zab (Zaa (id := 11) rfl ?_)) | refine Zaa (id := 11) rfl ?_ | refine Zab (Zad rfl (Zab (Zaa (id := 11) rfl ?_))) | refine Zad rfl (Zab (Zaa (id := 11) rfl ?_))
   refine Zah rfl (fun _ => rfl) rfl rfl ?_
   refine Zah rfl (fun _ => rfl) rfl rfl ?_
   refine Zah rfl (fun _ => rfl) rfl rfl ?_
   refine Zah rfl (fun _ => rfl) rfl rfl ?_
   refine Zae rfl rfl rfl hFF rfl rfl ?_
   refine Zae rfl rfl rfl hFF rfl rfl ?_
   refine Zae rfl rfl rfl hFF rfl rfl ?_
   refine Zae rfl rfl rfl hFF rfl rfl ?_
   refine Zae rfl rfl rfl hFF rfl rfl ?_
   refine Zax rfl rfl rfl hFF rfl rfl rfl ?_
   refine Zah rfl (fun _ => rfl) rfl rfl ?_
   refine Zag rfl rfl rfl rfl (fun _ => rfl) rfl rfl ?_
   refine Zag rfl rfl rfl rfl (fun _ => rfl) rfl rfl ?_
   refine Zag rfl rfl rfl rfl (fun _ => rfl) rfl rfl ?_
   refine Zag rfl rfl rfl hnn (fun _ => rfl) rfl rfl ?_
   refine Zag rfl rfl rfl hnn (fun _ => rfl) rfl rfl ?_
   refine Zag rfl rfl rfl hnn (fun _ => rfl) rfl rfl ?_
   refine Zag rfl rfl rfl hnn (fun _ => rfl) rfl rfl ?_
   refine Zag rfl rfl rfl hFF (fun _ => rfl) rfl rfl ?_
   refine Zag rfl rfl rfl hFF (fun _ => rfl) rfl rfl ?_
   refine Zag rfl rfl rfl hFF (fun _ => rfl) rfl rfl ?_
   refine Zbz rfl rfl rfl hnn rfl rfl hFF rfl rfl rfl ?_
   refine Zb0 rfl rfl rfl rfl rfl rfl hnn rfl rfl rfl ?_
   refine Zax rfl rfl rfl rfl rfl rfl rfl ?_
   refine Zal ?_
   repeat (first | refine Zaf ?_ | refine Zac ?_)
   refine And.intro (fun h => by first | (cases h; done) | exact (nf h hz0).elim) (fun _ => ?_)
   exact (Zoa pss b v .nils X f _ hM ha hv hg0 rfl (.inl d) hac).ent (Za7 ⟨rfl, rfl, rfl, rfl, rfl, rfl, rfl, rfl, rfl, rX, rfl, rfl, rfl, rfl, rfl, rfl, rfl, rfl, trivial⟩)
  ·rw [d]
   repeat (first | refine Zak ?_ | refine Zaf ?_ | refine Zac ?_)
   first | refine Zab (Zaa (id := 9) rfl ?_) | refine Zab (Zab (Zaa (id := 9) rfl ?_)) | refine Zaa (id := 9) rfl ?_ | refine Zab (Zad rfl (Zab (Zaa (id := 9) rfl ?_))) | refine Zad rfl (Zab (Zaa (id := 9) rfl ?_))
   refine Zah rfl (fun _ => rfl) rfl rfl ?_
   refine Zah rfl (fun _ => rfl) rfl rfl ?_
   refine Zah rfl (fun _ => rfl) rfl rfl ?_
   refine Zag rfl rfl rfl rfl (fun _ => rfl) rfl rfl ?_
   refine Za8 rfl rfl rfl rfl ((cW).mono ?_)
   rintro _ rfl
   refine ZaG rfl rfl ?_
   refine Zag rfl rfl rfl rfl (fun _ => rfl) rfl rfl ?_
   refine Zag rfl rfl rfl rfl (fun _ => rfl) rfl rfl ?_
   refine Zag rfl rfl rfl rfl (fun _ => rfl) rfl rfl ?_
   refine ZaB rfl rfl rfl rfl rfl rfl rfl ?_
   refine Zal ?_
   repeat (first | refine Zaf ?_ | refine Zac ?_)
   refine And.intro (fun _ => ?_) (fun h => by first | (cases h; done) | exact (nf u h).elim)
   refine ZaF (ZaR Zaj ?_)
   repeat (first | refine Zak ?_ | refine Zaf ?_ | refine Zac ?_)
   first | refine Zab (Zaa (id := 11) rfl ?_) | refine Zab (Zab (Zaa (id := 11) rfl ?_)) | refine Zaa (id := 11) rfl ?_ | refine Zab (Zad rfl (Zab (Zaa (id := 11) rfl ?_))) | refine Zad rfl (Zab (Zaa (id := 11) rfl ?_))
   refine Zah rfl (fun _ => rfl) rfl rfl ?_
   refine Zah rfl (fun _ => rfl) rfl rfl ?_
   refine Zah rfl (fun _ => rfl) rfl rfl ?_
   refine Zah rfl (fun _ => rfl) rfl rfl ?_
   refine Zae rfl rfl rfl rfl rfl rfl ?_
   refine Zae rfl rfl rfl rfl rfl rfl ?_
   refine Zae rfl rfl rfl rfl rfl rfl ?_
   refine Zae rfl rfl rfl rfl rfl rfl ?_
   refine Zae rfl rfl rfl rfl rfl rfl ?_
   refine Zax rfl rfl rfl rfl rfl rfl rfl ?_
   refine Zah rfl (fun _ => rfl) rfl rfl ?_
   refine Zag rfl rfl rfl rfl (fun _ => rfl) rfl rfl ?_
   refine Zag rfl rfl rfl rfl (fun _ => rfl) rfl rfl ?_
   refine Zag rfl rfl rfl rfl (fun _ => rfl) rfl rfl ?_
   refine Zag rfl rfl rfl rfl (fun _ => rfl) rfl rfl ?_
   refine Zag rfl rfl rfl rfl (fun _ => rfl) rfl rfl ?_
   refine Zag rfl rfl rfl rfl (fun _ => rfl) rfl rfl ?_
   refine Zag rfl rfl rfl rfl (fun _ => rfl) rfl rfl ?_
   refine Zag rfl rfl rfl rfl (fun _ => rfl) rfl rfl ?_
   refine Zag rfl rfl rfl rfl (fun _ => rfl) rfl rfl ?_
   refine Zag rfl rfl rfl rfl (fun _ => rfl) rfl rfl ?_
   refine Zbz rfl rfl rfl rfl rfl rfl rfl rfl rfl rfl ?_
   refine Zb0 rfl rfl rfl rfl rfl rfl rfl rfl rfl rfl ?_
   refine Zax rfl rfl rfl rfl rfl rfl rfl ?_
   refine Zal ?_
   repeat (first | refine Zaf ?_ | refine Zac ?_)
   refine And.intro (fun h => by first | (cases h; done) | exact (nf h hz0).elim) (fun _ => ?_)
   exact (Zoa pss b v .nils X f 3 hM ha hv hg0 rfl (.inl rfl) hac).ent (Za7 ⟨rfl, rfl, rfl, rfl, rfl, rfl, rfl, rfl, rfl, rX, rfl, rfl, rfl, rfl, rfl, rfl, rfl, rfl, trivial⟩)
  ·rw [d]
   repeat (first | refine Zak ?_ | refine Zaf ?_ | refine Zac ?_)
   first | refine Zab (Zaa (id := 9) rfl ?_) | refine Zab (Zab (Zaa (id := 9) rfl ?_)) | refine Zaa (id := 9) rfl ?_ | refine Zab (Zad rfl (Zab (Zaa (id := 9) rfl ?_))) | refine Zad rfl (Zab (Zaa (id := 9) rfl ?_))
   refine Zah rfl (fun _ => rfl) rfl rfl ?_
   refine Zah rfl (fun _ => rfl) rfl rfl ?_
   refine Zah rfl (fun _ => rfl) rfl rfl ?_
   refine Zag rfl rfl rfl rfl (fun _ => rfl) rfl rfl ?_
   refine Za8 rfl rfl rfl rfl ((cW).mono ?_)
   rintro _ rfl
   refine ZaG rfl rfl ?_
   refine Zag rfl rfl rfl rfl (fun _ => rfl) rfl rfl ?_
   refine Zag rfl rfl rfl rfl (fun _ => rfl) rfl rfl ?_
   refine Zag rfl rfl rfl rfl (fun _ => rfl) rfl rfl ?_
   refine ZaB rfl rfl rfl rfl rfl rfl rfl ?_
   refine Zal ?_
   repeat (first | refine Zaf ?_ | refine Zac ?_)
   refine And.intro (fun h => by first | (cases h; done) | exact (nf h u).elim) (fun _ => ?_)
   refine ZaF (ZaR Zaj ?_)
   repeat (first | refine Zak ?_ | refine Zaf ?_ | refine Zac ?_)
   first | refine Zab (Zaa (id := 11) rfl ?_) | refine Zab (Zab (Zaa (id := 11) rfl ?_)) | refine Zaa (id := 11) rfl ?_ | refine Zab (Zad rfl (Zab (Zaa (id := 11) rfl ?_))) | refine Zad rfl (Zab (Zaa (id := 11) rfl ?_))
   refine Zah rfl (fun _ => rfl) rfl rfl ?_
   refine Zah rfl (fun _ => rfl) rfl rfl ?_
   refine Zah rfl (fun _ => rfl) rfl rfl ?_
   refine Zah rfl (fun _ => rfl) rfl rfl ?_
   refine Zae rfl rfl rfl rfl rfl rfl ?_
   refine Zae rfl rfl rfl rfl rfl rfl ?_
   refine Zae rfl rfl rfl rfl rfl rfl ?_
   refine Zae rfl rfl rfl rfl rfl rfl ?_
   refine Zae rfl rfl rfl rfl rfl rfl ?_
   refine Zax rfl rfl rfl rfl rfl rfl rfl ?_
   refine Zah rfl (fun _ => rfl) rfl rfl ?_
   refine Zag rfl rfl rfl rfl (fun _ => rfl) rfl rfl ?_
   refine Zag rfl rfl rfl rfl (fun _ => rfl) rfl rfl ?_
   refine Zag rfl rfl rfl rfl (fun _ => rfl) rfl rfl ?_
   refine Zae rfl rfl rfl rfl rfl rfl ?_
   refine Zae rfl rfl rfl rfl rfl rfl ?_
   refine Zae rfl rfl rfl rfl rfl rfl ?_
   refine Zae rfl rfl rfl rfl rfl rfl ?_
   refine Zaw rfl rfl rfl rfl rfl ?_
   refine Zaw rfl rfl rfl rfl rfl ?_
   refine Zaw rfl rfl rfl rfl rfl ?_
   refine Zae rfl rfl rfl rfl rfl rfl ?_
   refine Zbz rfl rfl rfl rfl rfl rfl rfl rfl rfl rfl ?_
   refine Zax rfl rfl rfl rfl rfl rfl rfl ?_
   refine Zal ?_
   repeat (first | refine Zaf ?_ | refine Zac ?_)
   refine And.intro (fun h => by first | (cases h; done) | exact (nf h hz0).elim) (fun _ => ?_)
   exact (Zoa pss b v _ X f 0 hM ha hv hg0 rfl (.inr (.inl ⟨qss, hN, hwq, rfl, rfl⟩)) hac).ent (Za7 ⟨rfl, rfl, rfl, rfl, rfl, rfl, rfl, rfl, rfl, rX, rfl, rfl, rfl, rfl, rfl, rfl, rfl, rfl, trivial⟩)
  ·rw [d]
   have hvn : (!Zcu 6 [Za1 pss, b]) = false := by rw [hvs]; rfl
   repeat (first | refine Zak ?_ | refine Zaf ?_ | refine Zac ?_)
   first | refine Zab (Zaa (id := 9) rfl ?_) | refine Zab (Zab (Zaa (id := 9) rfl ?_)) | refine Zaa (id := 9) rfl ?_ | refine Zab (Zad rfl (Zab (Zaa (id := 9) rfl ?_))) | refine Zad rfl (Zab (Zaa (id := 9) rfl ?_))
   refine Zah rfl (fun _ => rfl) rfl rfl ?_
   refine Zah rfl (fun _ => rfl) rfl rfl ?_
   refine Zah rfl (fun _ => rfl) rfl rfl ?_
   refine Zag rfl rfl rfl rfl (fun _ => rfl) rfl rfl ?_
   refine Za8 rfl rfl rfl rfl ((cW).mono ?_)
   rintro _ rfl
   refine ZaG rfl rfl ?_
   refine Zag rfl rfl rfl rfl (fun _ => rfl) rfl rfl ?_
   refine Zag rfl rfl rfl rfl (fun _ => rfl) rfl rfl ?_
   refine Zag rfl rfl rfl rfl (fun _ => rfl) rfl rfl ?_
   refine ZaB rfl rfl rfl rfl rfl rfl rfl ?_
   refine Zal ?_
   repeat (first | refine Zaf ?_ | refine Zac ?_)
   refine And.intro (fun h => by first | (cases h; done) | exact (nf h u).elim) (fun _ => ?_)
   refine ZaF (ZaR Zaj ?_)
   repeat (first | refine Zak ?_ | refine Zaf ?_ | refine Zac ?_)
   first | refine Zab (Zaa (id := 11) rfl ?_) | refine Zab (Zab (Zaa (id := 11) rfl ?_)) | refine Zaa (id := 11) rfl ?_ | refine Zab (Zad rfl (Zab (Zaa (id := 11) rfl ?_))) | refine Zad rfl (Zab (Zaa (id := 11) rfl ?_))
   refine Zah rfl (fun _ => rfl) rfl rfl ?_
   refine Zah rfl (fun _ => rfl) rfl rfl ?_
   refine Zah rfl (fun _ => rfl) rfl rfl ?_
   refine Zah rfl (fun _ => rfl) rfl rfl ?_
   refine Zag rfl rfl rfl rfl (fun _ => rfl) rfl rfl ?_
   refine Zag rfl rfl rfl rfl (fun _ => rfl) rfl rfl ?_
   refine Zwh rfl rfl rfl rfl (fun _ => rfl) rfl rfl ?_
   refine Za8 rfl rfl rfl rfl (And.intro (show 0 + 2 ≤ 2 by decide) ((h2v).mono ?_))
   rintro _ rfl
   refine ZaG rfl rfl ?_
   refine Zag rfl rfl rfl rfl (fun _ => rfl) rfl rfl ?_
   refine ZaB rfl rfl rfl rfl rfl rfl rfl ?_
   refine Zah rfl (fun _ => rfl) rfl rfl ?_
   refine Zag rfl rfl rfl hvn (fun _ => rfl) rfl rfl ?_
   refine Zag rfl rfl rfl hvn (fun _ => rfl) rfl rfl ?_
   refine Zag rfl rfl rfl hvn (fun _ => rfl) rfl rfl ?_
   refine Zae rfl rfl rfl rfl rfl rfl ?_
   refine Zae rfl rfl rfl rfl rfl rfl ?_
   refine Zae rfl rfl rfl rfl rfl rfl ?_
   refine Zae rfl rfl rfl rfl rfl rfl ?_
   refine Zaw rfl rfl rfl rfl rfl ?_
   refine Zaw rfl rfl rfl rfl rfl ?_
   refine Zaw rfl rfl rfl rfl rfl ?_
   refine Zae rfl rfl rfl rfl rfl rfl ?_
   refine Zbz rfl rfl rfl hvn rfl rfl rfl rfl rfl rfl ?_
   refine Zax rfl rfl rfl hvn rfl rfl rfl ?_
   refine Zal ?_
   repeat (first | refine Zaf ?_ | refine Zac ?_)
   refine And.intro (fun h => by first | (cases h; done) | exact (nf h hvn).elim) (fun _ => ?_)
   exact (Zoa pss b v .nils X f 0 hM ha hv hg0 rfl (.inr (.inr (Zva hvs))) hac).ent (Za7 ⟨rfl, rfl, rfl, rfl, rfl, rfl, rfl, rfl, rfl, rX, rfl, rfl, rfl, rfl, rfl, rfl, rfl, rfl, trivial⟩)
end Go.Proofs.YtnfgnkbgajhhbaaGreatDoor
