/-
 The reference: Canon, RatAdd, RatSub, RatNeg, RatMul, RatDiv, RatSign, RatCmp.
-/
import Derived.Test.YtnfgnkbgajhhbaaGreatDoorR4
set_option linter.constructorNameAsVariable false
set_option linter.unusedSimpArgs false
set_option linter.unusedVariables false
namespace Go.Proofs.YtnfgnkbgajhhbaaGreatDoor
open Go.Am Go.Tx Dv Go.Lib
set_option maxRecDepth 100000
theorem ZrA {n d : Nat} (m : Bool) (hn : n ≠ 0) (hd : 0 < d) : ZaK (Rat.divInt (sg m (n : Int)) (d : Int)) = mns m (decDigits (n / Nat.gcd n d) ++ Zbm (d / Nat.gcd n d)) := by
 obtain ⟨e1, e2⟩ := Zde (n := sg m (n : Int)) (d := (d : Int)) (by omega)
 have hg : (Int.gcd (sg m (n : Int)) (d : Int)) = Nat.gcd n d := by
  unfold Int.gcd
  rw [Zk0, Int.natAbs_natCast, Int.natAbs_natCast]
 rw [hg] at e1 e2
 have hg0 : 0 < Nat.gcd n d := Nat.gcd_pos_of_pos_right _ hd
 obtain ⟨k, hk⟩ := Nat.gcd_dvd_left n d
 have hk1 : n / Nat.gcd n d = k := Nat.div_eq_of_eq_mul_right hg0 hk
 have hk0 : k ≠ 0 := by rintro rfl; exact hn (by rw [hk, Nat.mul_zero])
 have e3 : sg m (n : Int) / (Nat.gcd n d : Int) = sg m (k : Int) := by
  have hc : (n : Int) = (Nat.gcd n d : Int) * (k : Int) := by rw [← Int.natCast_mul, ← hk]
  rw [hc]
  cases m with
  | true =>
   simp only [sg]
   rw [← Int.mul_neg, Int.mul_ediv_cancel_left _ (by omega)]
  | false =>
   simp only [sg]
   rw [Int.mul_ediv_cancel_left _ (by omega)]
 rw [e3] at e1
 have e4 : (Rat.divInt (sg m (n : Int)) (d : Int)).den = d / Nat.gcd n d := by
  rw [← Int.natCast_ediv] at e2
  omega
 rw [ZaK, e1, e4, hk1, Zk0, Int.natAbs_natCast]
 have e5 : decide (sg m (k : Int) < 0) = m := by
  cases m with
  | true => exact decide_eq_true (by simp only [sg]; omega)
  | false => exact decide_eq_false (by simp only [sg]; omega)
 rw [e5]
set_option maxHeartbeats 4000000 in
theorem Zjy (m : Bool) (n d : Nat) (hd : 0 < d) (hln : dl n ≤ 90000) (hld : dl d ≤ 90000) : PureOK Tryz.prog Zat 72 [.v .b m, .v .s (decDigits n), .v .s (decDigits d)] (fun V => V = .v .s (ZaK (Rat.divInt (sg m (n : Int)) (d : Int)))) := by
 refine Zai Zaj Tryz.func72 ?_
 have hz := ZlL n
 refine And.intro (fun h => ?_) (fun h => ?_)
 ·have h' : (decDigits n == [48]) = true := h
  rw [hz] at h'
  have h0 : n = 0 := of_decide_eq_true h'
  subst h0
  have e : sg m ((0 : Nat) : Int) = 0 := by cases m <;> rfl
  rw [e, Rat.zero_divInt, Zlt]
  rfl
 ·have h' : (decDigits n == [48]) = false := h
  rw [hz] at h'
  have hn : n ≠ 0 := of_decide_eq_false h'
  have hg0 : 0 < Nat.gcd n d := Nat.gcd_pos_of_pos_right _ hd
  have hG := ZnW (decDigits n) (decDigits d) (Za0 _) (Za0 _) hln hld
  rw [Zas, Zas] at hG
  have hlg : dl (Nat.gcd n d) ≤ 90000 := Nat.le_trans (ZdX (Nat.gcd_le_right _ hd)) hld
  have hlg' : (decDigits (Nat.gcd n d)).length ≤ 90000 := hlg
  have hln' : (decDigits n).length ≤ 90000 := hln
  have hld' : (decDigits d).length ≤ 90000 := hld
  have hN := Zka (decDigits n) (decDigits (Nat.gcd n d)) (ZaI _) (Za0 _) (by rw [Zas]; exact hg0) (by omega) (by omega)
  have hD := Zka (decDigits d) (decDigits (Nat.gcd n d)) (ZaI _) (Za0 _) (by rw [Zas]; exact hg0) (by omega) (by omega)
  rw [Zas, Zas] at hN hD
  rw [ZrA m hn hd]
  have hl1 : dl (n / Nat.gcd n d) ≤ 90000 := Nat.le_trans (ZdX (Nat.div_le_self _ _)) hln
  have hl2 : dl (d / Nat.gcd n d) ≤ 90000 := Nat.le_trans (ZdX (Nat.div_le_self _ _)) hld
  have hc := Zw1 (Za0 (d / Nat.gcd n d))
  rw [Zas] at hc
  have hf : Zbm (d / Nat.gcd n d) = match decide (d / Nat.gcd n d = 1) with | true => [] | false => 47 :: decDigits (d / Nat.gcd n d) := rfl
  rw [← hc] at hf
  unfold dl at hl1 hl2
  refine hG.mono ?_
  rintro _ rfl
  refine hN.mono ?_
  rintro _ rfl
  refine hD.mono ?_
  rintro _ rfl
  obtain ⟨N, eN⟩ : ∃ x, decDigits (n / Nat.gcd n d) = x := ⟨_, rfl⟩
  obtain ⟨D, eD⟩ : ∃ x, decDigits (d / Nat.gcd n d) = x := ⟨_, rfl⟩
  rw [eN] at hl1 ⊢
  rw [eD] at hl2 hf ⊢
  obtain ⟨F, eF⟩ : ∃ x, Zbm (d / Nat.gcd n d) = x := ⟨_, rfl⟩
  rw [eF] at hf ⊢
  cases m with
  | true =>
   refine And.intro (fun _ => ?_) (fun h => nomatch h)
   refine And.intro (by show 1 + N.length ≤ 9223372036854775807; omega) ?_
   refine And.intro (fun h1 => ?_) (fun h1 => ?_)
   ·have h1' : (D == [49]) = true := h1
    rw [h1'] at hf
    simp only at hf
    rw [hf, List.append_nil]
    rfl
   ·have h1' : (D == [49]) = false := h1
    rw [h1'] at hf
    simp only at hf
    refine And.intro (by show (45 :: N).length + 1 ≤ 9223372036854775807; simp only [List.length_cons]; omega) ?_
    refine And.intro (by show ((45 :: N) ++ [47]).length + D.length ≤ 9223372036854775807; simp only [List.length_append, List.length_cons, List.length_nil]; omega) ?_
    rw [hf]
    show SV.v .s (((45 :: N) ++ [47]) ++ D) = SV.v .s (45 :: (N ++ 47 :: D))
    simp
  | false =>
   refine And.intro (fun h => nomatch h) (fun _ => ?_)
   refine And.intro (fun h1 => ?_) (fun h1 => ?_)
   ·have h1' : (D == [49]) = true := h1
    rw [h1'] at hf
    simp only at hf
    rw [hf, List.append_nil]
    rfl
   ·have h1' : (D == [49]) = false := h1
    rw [h1'] at hf
    simp only at hf
    refine And.intro (by show N.length + 1 ≤ 9223372036854775807; omega) ?_
    refine And.intro (by show (N ++ [47]).length + D.length ≤ 9223372036854775807; simp only [List.length_append, List.length_cons, List.length_nil]; omega) ?_
    rw [hf]
    show SV.v .s ((N ++ [47]) ++ D) = SV.v .s (N ++ 47 :: D)
    simp
theorem ZdQ (m n : Nat) (hm : dl m ≤ 300000) (hn : dl n ≤ 300000) : PureOK Tryz.prog Zat 71 [.v .s (decDigits m), .v .s (decDigits n)] (fun V => V = .v .s (decDigits (m * n))) := by
 have h := ZtA (decDigits m) (decDigits n) (ZaI _) (ZaI _) hm hn
 rw [Zas, Zas] at h
 exact h
theorem ZpN (m n : Nat) (hm : dl m ≤ 900000) (hn : dl n ≤ 900000) : PureOK Tryz.prog Zat 73 [.v .s (decDigits m), .v .s (decDigits n)] (fun V => V = .v .s (decDigits (m + n))) := by
 have h := ZsS (decDigits m) (decDigits n) (ZaI _) (ZaI _) hm hn
 rw [Zas, Zas] at h
 exact h
theorem ZkC (m n : Nat) (hm : dl m ≤ 900000) (hn : dl n ≤ 900000) (h : n ≤ m) : PureOK Tryz.prog Zat 75 [.v .s (decDigits m), .v .s (decDigits n)] (fun V => V = .v .s (decDigits (m - n))) := by
 have h := ZoI (decDigits m) (decDigits n) (ZaI _) (ZaI _) hm hn (by rw [Zas, Zas]; exact h)
 rw [Zas, Zas] at h
 exact h
theorem Zrn (m n : Nat) (hm : dl m ≤ 900000) (hn : dl n ≤ 900000) : PureOK Tryz.prog Zat 74 [.v .s (decDigits m), .v .s (decDigits n)] (fun V => V = .v (.i .i64) ((m : Int) - (n : Int)).sign) := by
 have hm : (decDigits m).length ≤ 900000 := hm
 have hn : (decDigits n).length ≤ 900000 := hn
 have h := Znq (decDigits m) (decDigits n) (Za0 _) (Za0 _) (by omega) (by omega)
 rw [Zas, Zas] at h
 exact h
set_option maxHeartbeats 4000000 in
theorem ZtE (p q : Rat) {k : Nat} (hk : k ≤ 40000) (hp : dz p k) (hq : dz q k) : PureOK Tryz.prog Zat 28 [.v .s (ZaK p), .v .s (ZaK q)] (fun V => V = .v .s (ZaK (p + q))) := by
 have hP := Zkh p (by omega) hp
 have hQ := Zkh q (by omega) hq
 obtain ⟨p1, p2⟩ := hp
 obtain ⟨q1, q2⟩ := hq
 have l1 := Zey p.num.natAbs q.den
 have l2 := Zey q.num.natAbs p.den
 have l3 := Zey p.den q.den
 have hz := Nat.mul_pos p.den_pos q.den_pos
 have e0 := Zha p q
 have sp := Zlh p.num
 have sq := Zlh q.num
 obtain ⟨m, hm⟩ : ∃ m, decide (p.num < 0) = m := ⟨_, rfl⟩
 obtain ⟨w, hw⟩ : ∃ w, decide (q.num < 0) = w := ⟨_, rfl⟩
 rw [hm] at hP sp
 rw [hw] at hQ sq
 have hX := ZdQ p.num.natAbs q.den (by omega) (by omega)
 have hY := ZdQ q.num.natAbs p.den (by omega) (by omega)
 have hZ := ZdQ p.den q.den (by omega) (by omega)
 rw [← Int.natCast_mul, ← sp, ← sq] at e0
 obtain ⟨X, eX⟩ : ∃ x, p.num.natAbs * q.den = x := ⟨_, rfl⟩
 obtain ⟨Y, eY⟩ : ∃ x, q.num.natAbs * p.den = x := ⟨_, rfl⟩
 obtain ⟨Z, eZ⟩ : ∃ x, p.den * q.den = x := ⟨_, rfl⟩
 have cX : (p.num.natAbs : Int) * (q.den : Int) = (X : Int) := by rw [← Int.natCast_mul, eX]
 have cY : (q.num.natAbs : Int) * (p.den : Int) = (Y : Int) := by rw [← Int.natCast_mul, eY]
 have sm : ∀ (b : Bool) (x y : Int), sg b x * y = sg b (x * y) := fun b x y => by cases b <;> simp [sg, Int.neg_mul]
 rw [sm, sm, cX, cY] at e0
 rw [eX] at hX l1
 rw [eY] at hY l2
 rw [eZ] at hZ l3 hz e0
 have hS := Zuz X Y
 refine Zai Zaj Tryz.func28 ?_
 refine hP.mono ?_
 rintro _ rfl
 refine hQ.mono ?_
 rintro _ rfl
 refine hX.mono ?_
 rintro _ rfl
 refine hY.mono ?_
 rintro _ rfl
 refine hZ.mono ?_
 rintro _ rfl
 refine And.intro (fun h => ?_) (fun h => ?_)
 ·have h' : (m == w) = true := h
  have hmw : m = w := by simpa using h'
  subst hmw
  refine (ZpN X Y (by omega) (by omega)).mono ?_
  rintro _ rfl
  have e1 : sg m (X : Int) + sg m (Y : Int) = sg m ((X + Y : Nat) : Int) := by cases m <;> simp only [sg] <;> omega
  rw [e1] at e0
  have hC := Zjy m (X + Y) Z hz (by omega) (by omega)
  rw [e0] at hC
  refine hC.mono ?_
  rintro _ rfl
  rfl
 ·have h' : (m == w) = false := h
  have hmw : m = !w := by cases m <;> cases w <;> first | rfl | cases h'
  refine (Zrn X Y (by omega) (by omega)).mono ?_
  rintro _ rfl
  refine And.intro (fun h2 => ?_) (fun h2 => ?_)
  ·have hlt : ((X : Int) - (Y : Int)).sign < 0 := of_decide_eq_true h2
   have hlt := Int.sign_neg_iff.1 hlt
   refine (ZkC Y X (by omega) (by omega) (by omega)).mono ?_
   rintro _ rfl
   have e1 : sg m (X : Int) + sg w (Y : Int) = sg w ((Y - X : Nat) : Int) := by rw [hmw]; cases w <;> simp only [sg, Bool.not_true, Bool.not_false] <;> omega
   rw [e1] at e0
   have hC := Zjy w (Y - X) Z hz (Nat.le_trans (ZdX (Nat.sub_le _ _)) (by omega)) (by omega)
   rw [e0] at hC
   refine hC.mono ?_
   rintro _ rfl
   rfl
  ·have hge : ¬ ((X : Int) - (Y : Int)).sign < 0 := of_decide_eq_false h2
   have hge : ¬ (X : Int) - (Y : Int) < 0 := fun h => hge (Int.sign_neg_iff.2 h)
   refine (ZkC X Y (by omega) (by omega) (by omega)).mono ?_
   rintro _ rfl
   have e1 : sg m (X : Int) + sg w (Y : Int) = sg m ((X - Y : Nat) : Int) := by rw [hmw]; cases w <;> simp only [sg, Bool.not_true, Bool.not_false] <;> omega
   rw [e1] at e0
   have hC := Zjy m (X - Y) Z hz (Nat.le_trans (ZdX (Nat.sub_le _ _)) (by omega)) (by omega)
   rw [e0] at hC
   refine hC.mono ?_
   rintro _ rfl
   rfl
theorem Zxa (m w : Bool) (x y : Int) : sg m x * sg w y = sg (!(m == w)) (x * y) := by
 cases m <;> cases w <;> simp [sg, Int.neg_mul, Int.mul_neg]
set_option maxHeartbeats 4000000 in
theorem ZtM (p q : Rat) {k : Nat} (hk : k ≤ 40000) (hp : dz p k) (hq : dz q k) : PureOK Tryz.prog Zat 29 [.v .s (ZaK p), .v .s (ZaK q)] (fun V => V = .v .s (ZaK (p * q))) := by
 have hP := Zkh p (by omega) hp
 have hQ := Zkh q (by omega) hq
 obtain ⟨p1, p2⟩ := hp
 obtain ⟨q1, q2⟩ := hq
 have l1 := Zey p.num.natAbs q.num.natAbs
 have l3 := Zey p.den q.den
 have hz := Nat.mul_pos p.den_pos q.den_pos
 have e0 := Zg8 p q
 have sp := Zlh p.num
 have sq := Zlh q.num
 obtain ⟨m, hm⟩ : ∃ m, decide (p.num < 0) = m := ⟨_, rfl⟩
 obtain ⟨w, hw⟩ : ∃ w, decide (q.num < 0) = w := ⟨_, rfl⟩
 rw [hm] at hP sp
 rw [hw] at hQ sq
 have hX := ZdQ p.num.natAbs q.num.natAbs (by omega) (by omega)
 have hZ := ZdQ p.den q.den (by omega) (by omega)
 rw [← Int.natCast_mul, ← sp, ← sq, Zxa, ← Int.natCast_mul] at e0
 have hC := Zjy (!(m == w)) (p.num.natAbs * q.num.natAbs) (p.den * q.den) hz (by omega) (by omega)
 rw [e0] at hC
 refine Zai Zaj Tryz.func29 ?_
 refine hP.mono ?_
 rintro _ rfl
 refine hQ.mono ?_
 rintro _ rfl
 refine hX.mono ?_
 rintro _ rfl
 refine hZ.mono ?_
 rintro _ rfl
 refine hC.mono ?_
 rintro _ rfl
 rfl
end Go.Proofs.YtnfgnkbgajhhbaaGreatDoor
/-
 Sizes of rational numbers in words; lists of rational numbers as the program holds them.
-/
namespace Go.Proofs.YtnfgnkbgajhhbaaGreatDoor
open Go.Am Go.Tx Dv Go.Lib
set_option maxRecDepth 100000
theorem ZnQ {n d : Int} {k : Nat} (hd : 0 < d) (h1 : ln n ≤ k) (h2 : ln d ≤ k) : szQ (Rat.divInt n d) k := by
 obtain ⟨e1, e2⟩ := Zde (n := n) hd
 constructor
 ·rw [e1]
  exact Nat.le_trans (Zil (Int.natAbs_ediv_le_natAbs _ _)) h1
 ·rw [e2]
  exact Nat.le_trans (Zil (Int.natAbs_ediv_le_natAbs _ _)) h2
theorem Zw8 {p q : Rat} {k m : Nat} (hp : szQ p k) (hq : szQ q m) : szQ (p + q) (k + m + 1) := by
 rw [← Zha]
 obtain ⟨p1, p2⟩ := hp
 obtain ⟨q1, q2⟩ := hq
 have h1 := ZdM p.num q.den
 have h2 := ZdM q.num p.den
 have h3 := ZdM (p.den : Int) q.den
 have h4 := Zt7 (p.num * q.den) (q.num * p.den)
 exact ZnQ (Int.mul_pos (ZcN p) (ZcN q)) (by omega) (by omega)
theorem ZwH {p q : Rat} {k m : Nat} (hp : szQ p k) (hq : szQ q m) : szQ (p * q) (k + m) := by
 rw [← Zg8]
 obtain ⟨p1, p2⟩ := hp
 obtain ⟨q1, q2⟩ := hq
 have h1 := ZdM p.num q.num
 have h3 := ZdM (p.den : Int) q.den
 exact ZnQ (Int.mul_pos (ZcN p) (ZcN q)) (by omega) (by omega)
theorem Zjq {p : Rat} {k m : Nat} (h : k ≤ m) (hp : szQ p k) : szQ p m := ⟨Nat.le_trans hp.1 h, Nat.le_trans hp.2 h⟩
theorem RxDoorQ91pw {a b m n:Nat} (k:Nat) (h:a^m≤b^n) {x:Nat} (hx:x≤m*k) (ha:0<a) {y:Nat} (hy:n*k=y):a^x≤b^y:=by
 subst hy
 refine Nat.le_trans (Nat.pow_le_pow_right ha hx) ?_
 rw[Nat.pow_mul,Nat.pow_mul]
 exact Nat.pow_le_pow_left h k
theorem ZuI {q : Rat} (h : ZgG q = true) : szQ q 208 := by
 obtain ⟨h1, h2⟩ := Zeg.1 h
 have hl : ∀ n : Nat, (decDigits n).length ≤ 2000 → (wOf n).length ≤ 208 := fun n hn => by
  have hd := Zbo (ZaI n)
  rw [Zas] at hd
  exact Zb3.2 (Nat.lt_of_lt_of_le hd (RxDoorQ91pw (m:=250) (n:=26) 8 (by decide +kernel) hn (by decide) rfl))
 refine ⟨hl _ h1, ?_⟩
 rw [ln, Int.natAbs_natCast]
 exact hl _ h2
theorem ZuT : szQ 0 1 := by
 constructor
 ·rw [Rat.zero_num, Zvy]; decide
 ·rw [Rat.zero_den]
  exact Zxm.2 (by decide)
abbrev qct : CT := .p (.p .b (.l (.i .u32))) (.p .b (.l (.i .u32)))
def Zbs (q : Rat) : qct.D := ((decide (q.num < 0), wOf q.num.natAbs), (decide ((q.den : Int) < 0), wOf (q.den : Int).natAbs))
abbrev QL (ps : List Rat) : SV := .v (.l qct) (ps.map Zbs)
theorem ZtJ {ps : List Rat} {i : Nat} (h : i < ps.length) : (ps.map Zbs)[i]? = some (Zbs ps[i]) := by
 rw [List.getElem?_map, List.getElem?_eq_getElem h]
 rfl
end Go.Proofs.YtnfgnkbgajhhbaaGreatDoor
