/-
  The reference: Canon, RatAdd, RatSub, RatNeg, RatMul, RatDiv, RatSign, RatCmp.
-/
import Derived.Test.YtnfgnkbgajhhbaaGreatDoorQ8
import Derived.Test.YtnfgnkbgajhhbaaGreatDoorQ7
import Derived.Test.YtnfgnkbgajhhbaaGreatDoorT7
set_option linter.constructorNameAsVariable false
set_option linter.unusedSimpArgs false
set_option linter.unusedVariables false
namespace Go.Proofs.YtnfgnkbgajhhbaaGreatDoor
open Go.Am Go.Tx Dv Go.Lib
set_option maxRecDepth 100000
theorem canon_rat {n d : Nat} (m : Bool) (hn : n ≠ 0) (hd : 0 < d) : ratT (Rat.divInt (sg m (n : Int)) (d : Int)) = mns m (decDigits (n / Nat.gcd n d) ++ fracT (d / Nat.gcd n d)) := by
  obtain ⟨e1, e2⟩ := ratio_num (n := sg m (n : Int)) (d := (d : Int)) (by omega)
  have hg : (Int.gcd (sg m (n : Int)) (d : Int)) = Nat.gcd n d := by
    unfold Int.gcd
    rw [sg_abs, Int.natAbs_natCast, Int.natAbs_natCast]
  rw [hg] at e1 e2
  have hg0 : 0 < Nat.gcd n d := Nat.gcd_pos_of_pos_right _ hd
  obtain ⟨k, hk⟩ := Nat.gcd_dvd_left n d
  have hk1 : n / Nat.gcd n d = k := Nat.div_eq_of_eq_mul_right hg0 hk
  have hk0 : k ≠ 0 := by rintro rfl; exact hn (by rw [hk, Nat.mul_zero])
  have e3 : sg m (n : Int) / (Nat.gcd n d : Int) = sg m (k : Int) := by
    have hc : (n : Int) = (Nat.gcd n d : Int) * (k : Int) := by rw [← Int.natCast_mul, ← hk]
    rw [hc]
    cases m with
    | true =>
      simp only [sg]
      rw [← Int.mul_neg, Int.mul_ediv_cancel_left _ (by omega)]
    | false =>
      simp only [sg]
      rw [Int.mul_ediv_cancel_left _ (by omega)]
  rw [e3] at e1
  have e4 : (Rat.divInt (sg m (n : Int)) (d : Int)).den = d / Nat.gcd n d := by
    rw [← Int.natCast_ediv] at e2
    omega
  rw [ratT, e1, e4, hk1, sg_abs, Int.natAbs_natCast]
  have e5 : decide (sg m (k : Int) < 0) = m := by
    cases m with
    | true => exact decide_eq_true (by simp only [sg]; omega)
    | false => exact decide_eq_false (by simp only [sg]; omega)
  rw [e5]
set_option maxHeartbeats 4000000 in
theorem Canon_t (m : Bool) (n d : Nat) (hd : 0 < d) (hln : dl n ≤ 90000) (hld : dl d ≤ 90000) : PureOK Tryz.prog hints 72 [.v .b m, .v .s (decDigits n), .v .s (decDigits d)] (fun V => V = .v .s (ratT (Rat.divInt (sg m (n : Int)) (d : Int)))) := by
  refine pure_rule (fn := Tryz.f72) (code := bodyOf Tryz.f72) tys_ok (by kernel_rfl) rfl Tryz.func72 (by kernel_rfl) (Nat.le_of_ble_eq_true (by kernel_rfl)) ?_
  have hz := zero_text n
  refine And.intro (fun h => ?_) (fun h => ?_)
  · have h' : (decDigits n == [48]) = true := h
    rw [hz] at h'
    have h0 : n = 0 := of_decide_eq_true h'
    subst h0
    have e : sg m ((0 : Nat) : Int) = 0 := by cases m <;> rfl
    rw [e, Rat.zero_divInt, ratT_zero]
    rfl
  · have h' : (decDigits n == [48]) = false := h
    rw [hz] at h'
    have hn : n ≠ 0 := of_decide_eq_false h'
    have hg0 : 0 < Nat.gcd n d := Nat.gcd_pos_of_pos_right _ hd
    have hG := NatGcd_t (decDigits n) (decDigits d) (cn_digits _) (cn_digits _) hln hld
    rw [dec_digits, dec_digits] at hG
    have hlg : dl (Nat.gcd n d) ≤ 90000 := Nat.le_trans (dl_mono (Nat.gcd_le_right _ hd)) hld
    have hlg' : (decDigits (Nat.gcd n d)).length ≤ 90000 := hlg
    have hln' : (decDigits n).length ≤ 90000 := hln
    have hld' : (decDigits d).length ≤ 90000 := hld
    have hN := NatDiv_t (decDigits n) (decDigits (Nat.gcd n d)) (dg_digits _) (cn_digits _) (by rw [dec_digits]; exact hg0) (by omega) (by omega)
    have hD := NatDiv_t (decDigits d) (decDigits (Nat.gcd n d)) (dg_digits _) (cn_digits _) (by rw [dec_digits]; exact hg0) (by omega) (by omega)
    rw [dec_digits, dec_digits] at hN hD
    rw [canon_rat m hn hd]
    have hl1 : dl (n / Nat.gcd n d) ≤ 90000 := Nat.le_trans (dl_mono (Nat.div_le_self _ _)) hln
    have hl2 : dl (d / Nat.gcd n d) ≤ 90000 := Nat.le_trans (dl_mono (Nat.div_le_self _ _)) hld
    have hc := eq49 (cn_digits (d / Nat.gcd n d))
    rw [dec_digits] at hc
    have hf : fracT (d / Nat.gcd n d) = match decide (d / Nat.gcd n d = 1) with | true => [] | false => 47 :: decDigits (d / Nat.gcd n d) := rfl
    rw [← hc] at hf
    unfold dl at hl1 hl2
    refine hG.mono ?_
    rintro _ rfl
    refine hN.mono ?_
    rintro _ rfl
    refine hD.mono ?_
    rintro _ rfl
    obtain ⟨N, eN⟩ : ∃ x, decDigits (n / Nat.gcd n d) = x := ⟨_, rfl⟩
    obtain ⟨D, eD⟩ : ∃ x, decDigits (d / Nat.gcd n d) = x := ⟨_, rfl⟩
    rw [eN] at hl1 ⊢
    rw [eD] at hl2 hf ⊢
    obtain ⟨F, eF⟩ : ∃ x, fracT (d / Nat.gcd n d) = x := ⟨_, rfl⟩
    rw [eF] at hf ⊢
    cases m with
    | true =>
      refine And.intro (fun _ => ?_) (fun h => nomatch h)
      refine And.intro (by show 1 + N.length ≤ 9223372036854775807; omega) ?_
      refine And.intro (fun h1 => ?_) (fun h1 => ?_)
      · have h1' : (D == [49]) = true := h1
        rw [h1'] at hf
        simp only at hf
        rw [hf, List.append_nil]
        rfl
      · have h1' : (D == [49]) = false := h1
        rw [h1'] at hf
        simp only at hf
        refine And.intro (by show (45 :: N).length + 1 ≤ 9223372036854775807; simp only [List.length_cons]; omega) ?_
        refine And.intro (by show ((45 :: N) ++ [47]).length + D.length ≤ 9223372036854775807; simp only [List.length_append, List.length_cons, List.length_nil]; omega) ?_
        rw [hf]
        show SV.v .s (((45 :: N) ++ [47]) ++ D) = SV.v .s (45 :: (N ++ 47 :: D))
        simp
    | false =>
      refine And.intro (fun h => nomatch h) (fun _ => ?_)
      refine And.intro (fun h1 => ?_) (fun h1 => ?_)
      · have h1' : (D == [49]) = true := h1
        rw [h1'] at hf
        simp only at hf
        rw [hf, List.append_nil]
        rfl
      · have h1' : (D == [49]) = false := h1
        rw [h1'] at hf
        simp only at hf
        refine And.intro (by show N.length + 1 ≤ 9223372036854775807; omega) ?_
        refine And.intro (by show (N ++ [47]).length + D.length ≤ 9223372036854775807; simp only [List.length_append, List.length_cons, List.length_nil]; omega) ?_
        rw [hf]
        show SV.v .s ((N ++ [47]) ++ D) = SV.v .s (N ++ 47 :: D)
        simp
theorem NatMulD_t (m n : Nat) (hm : dl m ≤ 300000) (hn : dl n ≤ 300000) : PureOK Tryz.prog hints 71 [.v .s (decDigits m), .v .s (decDigits n)] (fun V => V = .v .s (decDigits (m * n))) := by
  have h := NatMul_t (decDigits m) (decDigits n) (dg_digits _) (dg_digits _) hm hn
  rw [dec_digits, dec_digits] at h
  exact h
theorem NatAddD_t (m n : Nat) (hm : dl m ≤ 900000) (hn : dl n ≤ 900000) : PureOK Tryz.prog hints 73 [.v .s (decDigits m), .v .s (decDigits n)] (fun V => V = .v .s (decDigits (m + n))) := by
  have h := NatAdd_t (decDigits m) (decDigits n) (dg_digits _) (dg_digits _) hm hn
  rw [dec_digits, dec_digits] at h
  exact h
theorem NatSubD_t (m n : Nat) (hm : dl m ≤ 900000) (hn : dl n ≤ 900000) (h : n ≤ m) : PureOK Tryz.prog hints 75 [.v .s (decDigits m), .v .s (decDigits n)] (fun V => V = .v .s (decDigits (m - n))) := by
  have h := NatSub_t (decDigits m) (decDigits n) (dg_digits _) (dg_digits _) hm hn (by rw [dec_digits, dec_digits]; exact h)
  rw [dec_digits, dec_digits] at h
  exact h
theorem NatCmpD_t (m n : Nat) (hm : dl m ≤ 900000) (hn : dl n ≤ 900000) : PureOK Tryz.prog hints 74 [.v .s (decDigits m), .v .s (decDigits n)] (fun V => V = .v (.i .i64) ((m : Int) - (n : Int)).sign) := by
  have hm : (decDigits m).length ≤ 900000 := hm
  have hn : (decDigits n).length ≤ 900000 := hn
  have h := NatCmp_t (decDigits m) (decDigits n) (cn_digits _) (cn_digits _) (by omega) (by omega)
  rw [dec_digits, dec_digits] at h
  exact h
set_option maxHeartbeats 4000000 in
theorem RatAdd_t (p q : Rat) {k : Nat} (hk : k ≤ 40000) (hp : dz p k) (hq : dz q k) : PureOK Tryz.prog hints 28 [.v .s (ratT p), .v .s (ratT q)] (fun V => V = .v .s (ratT (p + q))) := by
  have hP := parts_t p (by omega) hp
  have hQ := parts_t q (by omega) hq
  obtain ⟨p1, p2⟩ := hp
  obtain ⟨q1, q2⟩ := hq
  have l1 := dl_mul p.num.natAbs q.den
  have l2 := dl_mul q.num.natAbs p.den
  have l3 := dl_mul p.den q.den
  have hz := Nat.mul_pos p.den_pos q.den_pos
  have e0 := add_frac p q
  have sp := sg_num p.num
  have sq := sg_num q.num
  obtain ⟨m, hm⟩ : ∃ m, decide (p.num < 0) = m := ⟨_, rfl⟩
  obtain ⟨w, hw⟩ : ∃ w, decide (q.num < 0) = w := ⟨_, rfl⟩
  rw [hm] at hP sp
  rw [hw] at hQ sq
  have hX := NatMulD_t p.num.natAbs q.den (by omega) (by omega)
  have hY := NatMulD_t q.num.natAbs p.den (by omega) (by omega)
  have hZ := NatMulD_t p.den q.den (by omega) (by omega)
  rw [← Int.natCast_mul, ← sp, ← sq] at e0
  obtain ⟨X, eX⟩ : ∃ x, p.num.natAbs * q.den = x := ⟨_, rfl⟩
  obtain ⟨Y, eY⟩ : ∃ x, q.num.natAbs * p.den = x := ⟨_, rfl⟩
  obtain ⟨Z, eZ⟩ : ∃ x, p.den * q.den = x := ⟨_, rfl⟩
  have cX : (p.num.natAbs : Int) * (q.den : Int) = (X : Int) := by rw [← Int.natCast_mul, eX]
  have cY : (q.num.natAbs : Int) * (p.den : Int) = (Y : Int) := by rw [← Int.natCast_mul, eY]
  have sm : ∀ (b : Bool) (x y : Int), sg b x * y = sg b (x * y) := fun b x y => by cases b <;> simp [sg, Int.neg_mul]
  rw [sm, sm, cX, cY] at e0
  rw [eX] at hX l1
  rw [eY] at hY l2
  rw [eZ] at hZ l3 hz e0
  have hS := dl_add X Y
  refine pure_rule (fn := Tryz.f28) (code := bodyOf Tryz.f28) tys_ok (by kernel_rfl) rfl Tryz.func28 (by kernel_rfl) (Nat.le_of_ble_eq_true (by kernel_rfl)) ?_
  refine hP.mono ?_
  rintro _ rfl
  refine hQ.mono ?_
  rintro _ rfl
  refine hX.mono ?_
  rintro _ rfl
  refine hY.mono ?_
  rintro _ rfl
  refine hZ.mono ?_
  rintro _ rfl
  refine And.intro (fun h => ?_) (fun h => ?_)
  · have h' : (m == w) = true := h
    have hmw : m = w := by simpa using h'
    subst hmw
    refine (NatAddD_t X Y (by omega) (by omega)).mono ?_
    rintro _ rfl
    have e1 : sg m (X : Int) + sg m (Y : Int) = sg m ((X + Y : Nat) : Int) := by cases m <;> simp only [sg] <;> omega
    rw [e1] at e0
    have hC := Canon_t m (X + Y) Z hz (by omega) (by omega)
    rw [e0] at hC
    refine hC.mono ?_
    rintro _ rfl
    rfl
  · have h' : (m == w) = false := h
    have hmw : m = !w := by cases m <;> cases w <;> first | rfl | cases h'
    refine (NatCmpD_t X Y (by omega) (by omega)).mono ?_
    rintro _ rfl
    refine And.intro (fun h2 => ?_) (fun h2 => ?_)
    · have hlt : ((X : Int) - (Y : Int)).sign < 0 := of_decide_eq_true h2
      have hlt := Int.sign_neg_iff.1 hlt
      refine (NatSubD_t Y X (by omega) (by omega) (by omega)).mono ?_
      rintro _ rfl
      have e1 : sg m (X : Int) + sg w (Y : Int) = sg w ((Y - X : Nat) : Int) := by rw [hmw]; cases w <;> simp only [sg, Bool.not_true, Bool.not_false] <;> omega
      rw [e1] at e0
      have hC := Canon_t w (Y - X) Z hz (Nat.le_trans (dl_mono (Nat.sub_le _ _)) (by omega)) (by omega)
      rw [e0] at hC
      refine hC.mono ?_
      rintro _ rfl
      rfl
    · have hge : ¬ ((X : Int) - (Y : Int)).sign < 0 := of_decide_eq_false h2
      have hge : ¬ (X : Int) - (Y : Int) < 0 := fun h => hge (Int.sign_neg_iff.2 h)
      refine (NatSubD_t X Y (by omega) (by omega) (by omega)).mono ?_
      rintro _ rfl
      have e1 : sg m (X : Int) + sg w (Y : Int) = sg m ((X - Y : Nat) : Int) := by rw [hmw]; cases w <;> simp only [sg, Bool.not_true, Bool.not_false] <;> omega
      rw [e1] at e0
      have hC := Canon_t m (X - Y) Z hz (Nat.le_trans (dl_mono (Nat.sub_le _ _)) (by omega)) (by omega)
      rw [e0] at hC
      refine hC.mono ?_
      rintro _ rfl
      rfl
theorem sg_mul (m w : Bool) (x y : Int) : sg m x * sg w y = sg (!(m == w)) (x * y) := by
  cases m <;> cases w <;> simp [sg, Int.neg_mul, Int.mul_neg]
set_option maxHeartbeats 4000000 in
theorem RatMul_t (p q : Rat) {k : Nat} (hk : k ≤ 40000) (hp : dz p k) (hq : dz q k) : PureOK Tryz.prog hints 29 [.v .s (ratT p), .v .s (ratT q)] (fun V => V = .v .s (ratT (p * q))) := by
  have hP := parts_t p (by omega) hp
  have hQ := parts_t q (by omega) hq
  obtain ⟨p1, p2⟩ := hp
  obtain ⟨q1, q2⟩ := hq
  have l1 := dl_mul p.num.natAbs q.num.natAbs
  have l3 := dl_mul p.den q.den
  have hz := Nat.mul_pos p.den_pos q.den_pos
  have e0 := mul_frac p q
  have sp := sg_num p.num
  have sq := sg_num q.num
  obtain ⟨m, hm⟩ : ∃ m, decide (p.num < 0) = m := ⟨_, rfl⟩
  obtain ⟨w, hw⟩ : ∃ w, decide (q.num < 0) = w := ⟨_, rfl⟩
  rw [hm] at hP sp
  rw [hw] at hQ sq
  have hX := NatMulD_t p.num.natAbs q.num.natAbs (by omega) (by omega)
  have hZ := NatMulD_t p.den q.den (by omega) (by omega)
  rw [← Int.natCast_mul, ← sp, ← sq, sg_mul, ← Int.natCast_mul] at e0
  have hC := Canon_t (!(m == w)) (p.num.natAbs * q.num.natAbs) (p.den * q.den) hz (by omega) (by omega)
  rw [e0] at hC
  refine pure_rule (fn := Tryz.f29) (code := bodyOf Tryz.f29) tys_ok (by kernel_rfl) rfl Tryz.func29 (by kernel_rfl) (Nat.le_of_ble_eq_true (by kernel_rfl)) ?_
  refine hP.mono ?_
  rintro _ rfl
  refine hQ.mono ?_
  rintro _ rfl
  refine hX.mono ?_
  rintro _ rfl
  refine hZ.mono ?_
  rintro _ rfl
  refine hC.mono ?_
  rintro _ rfl
  rfl
end Go.Proofs.YtnfgnkbgajhhbaaGreatDoor

/-
  Sizes of rational numbers in words; lists of rational numbers as the program holds them.
-/
set_option linter.unusedSimpArgs false
set_option linter.unusedVariables false
namespace Go.Proofs.YtnfgnkbgajhhbaaGreatDoor
open Go.Am Go.Tx Dv Go.Lib
set_option maxRecDepth 100000
theorem sz_ratio {n d : Int} {k : Nat} (hd : 0 < d) (h1 : ln n ≤ k) (h2 : ln d ≤ k) : szQ (Rat.divInt n d) k := by
  obtain ⟨e1, e2⟩ := ratio_num (n := n) hd
  constructor
  · rw [e1]
    exact Nat.le_trans (ln_mono (Int.natAbs_ediv_le_natAbs _ _)) h1
  · rw [e2]
    exact Nat.le_trans (ln_mono (Int.natAbs_ediv_le_natAbs _ _)) h2
theorem sz_add {p q : Rat} {k m : Nat} (hp : szQ p k) (hq : szQ q m) : szQ (p + q) (k + m + 1) := by
  rw [← add_frac]
  obtain ⟨p1, p2⟩ := hp
  obtain ⟨q1, q2⟩ := hq
  have h1 := ln_mul p.num q.den
  have h2 := ln_mul q.num p.den
  have h3 := ln_mul (p.den : Int) q.den
  have h4 := ln_add (p.num * q.den) (q.num * p.den)
  exact sz_ratio (Int.mul_pos (den_pos' p) (den_pos' q)) (by omega) (by omega)
theorem sz_mul {p q : Rat} {k m : Nat} (hp : szQ p k) (hq : szQ q m) : szQ (p * q) (k + m) := by
  rw [← mul_frac]
  obtain ⟨p1, p2⟩ := hp
  obtain ⟨q1, q2⟩ := hq
  have h1 := ln_mul p.num q.num
  have h3 := ln_mul (p.den : Int) q.den
  exact sz_ratio (Int.mul_pos (den_pos' p) (den_pos' q)) (by omega) (by omega)
theorem sz_mono {p : Rat} {k m : Nat} (h : k ≤ m) (hp : szQ p k) : szQ p m := ⟨Nat.le_trans hp.1 h, Nat.le_trans hp.2 h⟩
theorem RxDoorQ91pw {a b m n:Nat} (k:Nat) (h:a^m≤b^n) {x:Nat} (hx:x≤m*k) (ha:0<a) {y:Nat} (hy:n*k=y):a^x≤b^y:=by
 subst hy
 refine Nat.le_trans (Nat.pow_le_pow_right ha hx) ?_
 rw[Nat.pow_mul,Nat.pow_mul]
 exact Nat.pow_le_pow_left h k
theorem fit_sz {q : Rat} (h : fitQ q = true) : szQ q 208 := by
  obtain ⟨h1, h2⟩ := fitQ_iff.1 h
  have hl : ∀ n : Nat, (decDigits n).length ≤ 2000 → (wOf n).length ≤ 208 := fun n hn => by
    have hd := dec_lt (dg_digits n)
    rw [dec_digits] at hd
    exact wOf_len.2 (Nat.lt_of_lt_of_le hd (RxDoorQ91pw (m:=250) (n:=26) 8 (by decide +kernel) hn (by decide) rfl))
  refine ⟨hl _ h1, ?_⟩
  rw [ln, Int.natAbs_natCast]
  exact hl _ h2
theorem sz_zero : szQ 0 1 := by
  constructor
  · rw [Rat.zero_num, ln_zero]; decide
  · rw [Rat.zero_den]
    exact ln_le.2 (by decide)
abbrev qct : CT := .p (.p .b (.l (.i .u32))) (.p .b (.l (.i .u32)))
/-- A rational number as a row's cell. -/
def encQ (q : Rat) : qct.D := ((decide (q.num < 0), wOf q.num.natAbs), (decide ((q.den : Int) < 0), wOf (q.den : Int).natAbs))
/-- A list of rational numbers. -/
abbrev QL (ps : List Rat) : SV := .v (.l qct) (ps.map encQ)
theorem QL_at {ps : List Rat} {i : Nat} (h : i < ps.length) : (ps.map encQ)[i]? = some (encQ ps[i]) := by
  rw [List.getElem?_map, List.getElem?_eq_getElem h]
  rfl
end Go.Proofs.YtnfgnkbgajhhbaaGreatDoor

/-
  From one piece of code to the next.
-/
set_option linter.unusedSimpArgs false
set_option linter.unusedVariables false
namespace Go.Tx
open Go.Am
section
variable {P : Program} {h : Hints} {T : TypeId → TI} {tm : TM} {hp : List SM} {F : Nat}
theorem wpg_next {k : Ex → TM → List SM → Prop} {n : TM → List SM → Prop} (hn : n tm hp) : seqK k n .normal tm hp := hn
theorem wpg_blkout {id : Nat} {k : Ex → TM → List SM → Prop} (hn : k .normal tm hp) : blkK id k .normal tm hp := hn
theorem wpg_skipc {c : Cx} {k : Ex → TM → List SM → Prop} (hn : k .normal tm hp) : wp P h T F c .skip tm hp k := hn
variable {N : Nat} {ds : List (Option Tmp)} {o : Oper} {l : List Oper} {kk : TM → List SM → Prop} {j d dd : Nat} {w t : Bool} {V : SV}
theorem wpg_m {hp' : List SM} (hg : o.guard = none) (he : ∀ k, opT P h T o.op tm hp k = k V hp') (ho : o.dst = some dd) (hN : Nat.ble (dd + 1) N = true) (hk : wpOps P h T N ds l ((dd, V) :: tm) hp' kk) : wpOps P h T N ds (o :: l) tm hp kk := by
  refine wpg_op hg ?_
  rw [he]
  have hk := wpg_put (c := fun tm' => wpOps P h T N ds l tm' hp' kk) (V := V) (tm := tm) ho hN hk
  exact hk
end
end Go.Tx
