/-
  The package rat: CheckAll, Add, Sub, Mul, Div, Neg, Compare, Sign, Of.
-/
import Derived.Test.YtlnimeapichgmaaGreatDoorQ1
import Derived.Test.YtlnimeapichgmaaGreatDoorQ6
set_option linter.constructorNameAsVariable false
set_option linter.unusedSimpArgs false
set_option linter.unusedVariables false
namespace Go.Proofs.YtlnimeapichgmaaGreatDoor
open Go.Am Go.Tx Dv Go.Lib
set_option maxRecDepth 100000
set_option maxHeartbeats 4000000 in
theorem CheckAll_t (l : List (List UInt8)) (hl : l.length ≤ 1000000) (hs : ∀ a ∈ l, a.length ≤ 9223372036854775806) : PureOK Tryz.prog hints 13 [.v (.l .s) l] (fun V => V = .v (.i .i64) (ratEs l)) := by
  refine pure_rule (fn := Tryz.f13) (code := bodyOf Tryz.f13) tys_ok (by kernel_rfl) rfl Tryz.func13 (by kernel_rfl) (Nat.le_of_ble_eq_true (by kernel_rfl)) ?_
  refine loop_wp tys_ok rfl (fun (i : Nat) => [(0, .v (.l .s) l), (6, .v (.l .s) l), (7, .v (.i .i64) (l.length : Int)), (8, .v (.i .i64) (i : Int))]) (fun _ => [])
    (fun i => i ≤ l.length ∧ ratEs (l.drop i) = ratEs l) (fun i => l.length - i) ?_ 0 ?_ ?_
  · rintro i ⟨hi, he⟩
    refine And.intro (fun h => ?_) (fun h => ?_)
    · have hlt : i < l.length := by have h' : (i : Int) < (l.length : Int) := of_decide_eq_true h; omega
      obtain ⟨x, hx⟩ : ∃ x, l[i] = x := ⟨_, rfl⟩
      have gx : l[(i : Int).toNat]? = some x := by rw [Int.toNat_natCast, List.getElem?_eq_getElem hlt, hx]
      have hxl := hs x (hx ▸ List.getElem_mem hlt)
      rw [List.drop_eq_getElem_cons hlt, hx, ratEs] at he
      refine ⟨x, Int.natCast_nonneg i, gx, ?_⟩
      refine (RCheck_t x hxl).mono ?_
      rintro _ rfl
      refine And.intro (fun h2 => ?_) (fun h2 => ?_)
      · have h2' : (!decide (ratErr x = 0)) = true := h2
        have hd : decide (ratErr x = 0) = false := by cases hd : decide (ratErr x = 0) <;> simp [hd] at h2' ⊢
        rw [hd] at he
        exact congrArg (SV.v (.i .i64)) he
      · have h2' : (!decide (ratErr x = 0)) = false := h2
        have hd : decide (ratErr x = 0) = true := by cases hd : decide (ratErr x = 0) <;> simp [hd] at h2' ⊢
        rw [hd] at he
        have wi : IntKind.i64.wrap ((i : Int) + 1) = ((i + 1 : Nat) : Int) := wrap64 (by omega) (by omega)
        refine ⟨i + 1, ⟨hlt, he⟩, by show l.length - (i + 1) < l.length - i; omega, ?_⟩
        refine ent_of rfl rfl ?_ ?_
        · exact ⟨rfl, rfl, rfl, wi.symm, trivial⟩
        · exact trivial
    · have hi2 : i = l.length := by have h' : ¬ (i : Int) < (l.length : Int) := of_decide_eq_false h; omega
      rw [List.drop_of_length_le (by omega)] at he
      exact congrArg (SV.v (.i .i64)) he
  · exact ⟨Nat.zero_le _, rfl⟩
  · refine ent_of rfl rfl ?_ ?_
    · exact ⟨rfl, rfl, rfl, rfl, trivial⟩
    · exact trivial
theorem CheckAll2_t (a b : List UInt8) (hla : a.length ≤ 9223372036854775806) (hlb : b.length ≤ 9223372036854775806) : PureOK Tryz.prog hints 13 [.v (.l .s) (sub [a, b] 0 2)] (fun V => V = .v (.i .i64) (twoQ a b)) := by
  have h := CheckAll_t [a, b] (show 2 ≤ 1000000 by decide) (fun x hx => by
    rcases List.mem_cons.1 hx with rfl | hx
    · exact hla
    · rcases List.mem_cons.1 hx with rfl | hx
      · exact hlb
      · exact absurd hx List.not_mem_nil)
  rw [ratEs_two] at h
  exact h
set_option maxHeartbeats 4000000 in
theorem RText_t (q : Rat) : PureOK Tryz.prog hints 83 [QR q] (fun V => ∃ X, V = .tup [.v .s X, .v .b (fitQ q)] ∧ (fitQ q = true → X = ratT q)) := by
  refine pure_rule (fn := Tryz.f83) (code := bodyOf Tryz.f83) tys_ok (by kernel_rfl) rfl Tryz.func83 (by kernel_rfl) (Nat.le_of_ble_eq_true (by kernel_rfl)) ?_
  have hN := Text_t q.num
  have hD := Text_t (q.den : Int)
  obtain ⟨n1, n2⟩ := text_num q.num
  obtain ⟨d1, d2⟩ := text_num (q.den : Int)
  have ln := textB_len (decide (q.num < 0)) (wOf q.num.natAbs)
  have ld := textB_len (decide ((q.den : Int) < 0)) (wOf (q.den : Int).natAbs)
  have hfit : fitQ q = (textF (wOf q.num.natAbs) && textF (wOf (q.den : Int).natAbs)) := by
    rw [n1, d1, Int.natAbs_natCast]
    rfl
  rw [← n1] at n2
  rw [← d1, decide_eq_false (by omega : ¬ (q.den : Int) < 0)] at d2
  rw [decide_eq_false (by omega : ¬ (q.den : Int) < 0)] at ld hD
  obtain ⟨t1, e1⟩ : ∃ x, textB (decide (q.num < 0)) (wOf q.num.natAbs) = x := ⟨_, rfl⟩
  obtain ⟨f1, g1⟩ : ∃ x, textF (wOf q.num.natAbs) = x := ⟨_, rfl⟩
  obtain ⟨t2, e2⟩ : ∃ x, textB false (wOf (q.den : Int).natAbs) = x := ⟨_, rfl⟩
  obtain ⟨f2, g2⟩ : ∃ x, textF (wOf (q.den : Int).natAbs) = x := ⟨_, rfl⟩
  have hD : PureOK Tryz.prog hints 104 [IS (q.den : Int)] (fun V => V = .tup [.v .s (textB false (wOf (q.den : Int).natAbs)), .v .b (textF (wOf (q.den : Int).natAbs))]) := by
    have := Text_t (q.den : Int)
    refine this.mono ?_
    rintro _ rfl
    rw [decide_eq_false (by omega : ¬ (q.den : Int) < 0)]
  rw [e1, g1] at hN n2
  rw [e2, g2] at hD d2
  rw [g1, g2] at hfit
  rw [e1] at ln
  rw [e2] at ld
  rw [Int.natAbs_natCast] at d2
  have hr : ratT q = mns (decide (q.num < 0)) (decDigits q.num.natAbs ++ fracT q.den) := rfl
  obtain ⟨m, hm⟩ : ∃ m, decide (q.num < 0) = m := ⟨_, rfl⟩
  have n3 : f1 = true → t1 = mns m (decDigits q.num.natAbs) := fun h => by rw [n2 h, hm]
  rw [hm] at hr
  rw [hfit]
  refine And.intro rfl ?_
  refine hN.mono ?_
  rintro _ rfl
  cases f1 with
  | false =>
    refine And.intro (fun _ => ?_) (fun h => nomatch h)
    exact ⟨[], rfl, fun h => nomatch h⟩
  | true =>
    have n3 := n3 rfl
    refine And.intro (fun h => nomatch h) (fun _ => ?_)
    refine And.intro rfl ?_
    refine hD.mono ?_
    rintro _ rfl
    refine And.intro (fun h => ?_) (fun h => ?_)
    · have h' : t2 = [49] := eq_of_beq h
      refine ⟨t1, rfl, fun hf => ?_⟩
      have hf : f2 = true := hf
      have h3 := d2 hf
      have h4 : decDigits q.den = [49] := h3.symm.trans h'
      have h5 : q.den = 1 := (cn_one (cn_digits q.den)).2 h4 |> fun h => by rw [dec_digits] at h; exact h
      rw [hr, n3, fracT, decide_eq_true h5, List.append_nil]
    · have h' : ¬ t2 = [49] := fun e => by rw [e] at h; cases h
      refine And.intro (by show t1.length + 1 ≤ 9223372036854775807; omega) ?_
      refine And.intro (by show (t1 ++ [47]).length + t2.length ≤ 9223372036854775807; rw [List.length_append]; simp only [List.length_singleton]; omega) ?_
      refine ⟨t1 ++ [47] ++ t2, rfl, fun hf => ?_⟩
      have hf : f2 = true := hf
      have h3 := d2 hf
      have h5 : ¬ q.den = 1 := fun e => h' (by rw [h3, e]; exact decDigits_one (by decide))
      rw [hr, n3, fracT, decide_eq_false h5, h3]
      cases m <;> simp [mns]
theorem rtx_t (q : Rat) : PureOK Tryz.prog hints 48 [QR q] (fun V => V = rs (ratR q)) := by
  refine pure_rule (fn := Tryz.f48) (code := bodyOf Tryz.f48) tys_ok (by kernel_rfl) rfl Tryz.func48 (by kernel_rfl) (Nat.le_of_ble_eq_true (by kernel_rfl)) ?_
  refine And.intro rfl ?_
  refine (RText_t q).mono ?_
  rintro _ ⟨X, rfl, hX⟩
  have hR : ratR q = match fitQ q with | true => (ratT q, 0) | false => ([], 2) := rfl
  obtain ⟨f, hf⟩ : ∃ f, fitQ q = f := ⟨_, rfl⟩
  rw [hf] at hX hR
  rw [hf, hR]
  cases f with
  | false =>
    refine And.intro (fun _ => ?_) (fun h => nomatch h)
    rfl
  | true =>
    refine And.intro (fun h => nomatch h) (fun _ => ?_)
    rw [hX rfl]
    rfl
theorem Read_mns (m : Bool) (n : Nat) (hl : (decDigits n).length ≤ 300000) : PureOK Tryz.prog hints 68 [.v .s (mns m (decDigits n))] (fun V => V = IS (sg m (n : Int))) := by
  have h := Read_t m (decDigits n) (dg_digits n) hl
  rw [dec_digits] at h
  have e : minusT m (decDigits n) = mns m (decDigits n) := by cases m <;> rfl
  rw [e] at h
  exact h
set_option maxHeartbeats 4000000 in
theorem Parse_t (q : Rat) (h : fitQ q = true) : PureOK Tryz.prog hints 65 [.v .s (ratT q)] (fun V => V = QR q) := by
  obtain ⟨h1, h2⟩ := fitQ_iff.1 h
  have hl := fit_len h
  have hC := Cut_t (ratT q) 47 (by omega)
  have hc : cutS (ratT q) 47 = match decide (q.den = 1) with
    | true => (mns (decide (q.num < 0)) (decDigits q.num.natAbs), [], false)
    | false => (mns (decide (q.num < 0)) (decDigits q.num.natAbs), decDigits q.den, true) := cut_mns _ _ _
  have hN := Read_mns (decide (q.num < 0)) q.num.natAbs (by omega)
  rw [sg_num] at hN
  have hD := Read_mns false q.den (by omega)
  refine pure_rule (fn := Tryz.f65) (code := bodyOf Tryz.f65) tys_ok (by kernel_rfl) rfl Tryz.func65 (by kernel_rfl) (Nat.le_of_ble_eq_true (by kernel_rfl)) ?_
  cases hd : decide (q.den = 1) with
  | true =>
    rw [hd] at hc
    simp only at hc
    rw [hc] at hC
    have h1 : q.den = 1 := of_decide_eq_true hd
    refine hC.mono ?_
    rintro _ rfl
    refine And.intro (fun _ => ?_) (fun h => nomatch h)
    refine hN.mono ?_
    rintro _ rfl
    refine (Of_t 1 (by decide) (by decide)).mono ?_
    rintro _ rfl
    refine And.intro rfl ?_
    refine And.intro rfl ?_
    show QS q.num ((1 : Nat) : Int) = QS q.num (q.den : Int)
    rw [h1]
  | false =>
    rw [hd] at hc
    simp only at hc
    rw [hc] at hC
    refine hC.mono ?_
    rintro _ rfl
    refine And.intro (fun h => nomatch h) (fun _ => ?_)
    refine hN.mono ?_
    rintro _ rfl
    refine hD.mono ?_
    rintro _ rfl
    refine And.intro rfl ?_
    refine And.intro rfl ?_
    rfl
theorem op_err (f : FuncId) (a b : List UInt8) (hla : a.length ≤ 9223372036854775806) (hlb : b.length ≤ 9223372036854775806) (hE : twoQ a b ≠ 0) : PureOK Tryz.prog hints 53 [.v .s a, .v .s b, .func f [] []] (fun V => V = rs ([], twoQ a b)) := by
  refine pure_rule (fn := Tryz.f53) (code := bodyOf Tryz.f53) tys_ok (by kernel_rfl) rfl Tryz.func53 (by kernel_rfl) (Nat.le_of_ble_eq_true (by kernel_rfl)) ?_
  refine And.intro (show 0 + 2 ≤ 2 by decide) ?_
  refine (CheckAll2_t a b hla hlb).mono ?_
  rintro _ rfl
  have hn : (!decide (twoQ a b = 0)) = true := by rw [decide_eq_false hE]; rfl
  exact And.intro (fun _ => rfl) (fun h => (nf hn h).elim)
theorem fit_le {q : Rat} (h : fitQ q = true) : (ratT q).length ≤ 9223372036854775806 := by
  have := fit_len h
  omega
theorem twoQ_n {p q : Rat} (hp : fitQ p = true) (hq : fitQ q = true) : (!decide (twoQ (ratT p) (ratT q) = 0)) = false := by rw [twoQ_fit hp hq]; rfl
set_option maxHeartbeats 4000000 in
theorem op_Add (p q : Rat) (hp : fitQ p = true) (hq : fitQ q = true) : PureOK Tryz.prog hints 53 [.v .s (ratT p), .v .s (ratT q), .func 54 [] []] (fun V => V = rs (ratR (p + q))) := by
  have hn := twoQ_n hp hq
  refine pure_rule (fn := Tryz.f53) (code := bodyOf Tryz.f53) tys_ok (by kernel_rfl) rfl Tryz.func53 (by kernel_rfl) (Nat.le_of_ble_eq_true (by kernel_rfl)) ?_
  refine And.intro (show 0 + 2 ≤ 2 by decide) ?_
  refine (CheckAll2_t (ratT p) (ratT q) (fit_le hp) (fit_le hq)).mono ?_
  rintro _ rfl
  refine And.intro (fun h => (nf h hn).elim) (fun _ => ?_)
  refine (Parse_t p hp).mono ?_
  rintro _ rfl
  refine (Parse_t q hq).mono ?_
  rintro _ rfl
  refine (RAdd_t p q (by omega : 2000 ≤ 100000) (fit_ln hp) (fit_ln hq)).mono ?_
  rintro _ rfl
  refine (rtx_t (p + q)).mono ?_
  rintro _ rfl
  rfl
set_option maxHeartbeats 4000000 in
theorem op_Sub (p q : Rat) (hp : fitQ p = true) (hq : fitQ q = true) : PureOK Tryz.prog hints 53 [.v .s (ratT p), .v .s (ratT q), .func 55 [] []] (fun V => V = rs (ratR (p - q))) := by
  have hn := twoQ_n hp hq
  refine pure_rule (fn := Tryz.f53) (code := bodyOf Tryz.f53) tys_ok (by kernel_rfl) rfl Tryz.func53 (by kernel_rfl) (Nat.le_of_ble_eq_true (by kernel_rfl)) ?_
  refine And.intro (show 0 + 2 ≤ 2 by decide) ?_
  refine (CheckAll2_t (ratT p) (ratT q) (fit_le hp) (fit_le hq)).mono ?_
  rintro _ rfl
  refine And.intro (fun h => (nf h hn).elim) (fun _ => ?_)
  refine (Parse_t p hp).mono ?_
  rintro _ rfl
  refine (Parse_t q hq).mono ?_
  rintro _ rfl
  refine (RSub_t p q (by omega : 2000 ≤ 100000) (fit_ln hp) (fit_ln hq)).mono ?_
  rintro _ rfl
  refine (rtx_t (p - q)).mono ?_
  rintro _ rfl
  rfl
set_option maxHeartbeats 4000000 in
theorem op_Mul (p q : Rat) (hp : fitQ p = true) (hq : fitQ q = true) : PureOK Tryz.prog hints 53 [.v .s (ratT p), .v .s (ratT q), .func 63 [] []] (fun V => V = rs (ratR (p * q))) := by
  have hn := twoQ_n hp hq
  refine pure_rule (fn := Tryz.f53) (code := bodyOf Tryz.f53) tys_ok (by kernel_rfl) rfl Tryz.func53 (by kernel_rfl) (Nat.le_of_ble_eq_true (by kernel_rfl)) ?_
  refine And.intro (show 0 + 2 ≤ 2 by decide) ?_
  refine (CheckAll2_t (ratT p) (ratT q) (fit_le hp) (fit_le hq)).mono ?_
  rintro _ rfl
  refine And.intro (fun h => (nf h hn).elim) (fun _ => ?_)
  refine (Parse_t p hp).mono ?_
  rintro _ rfl
  refine (Parse_t q hq).mono ?_
  rintro _ rfl
  refine (RMul_t p q (by omega : 2000 ≤ 100000) (fit_ln hp) (fit_ln hq)).mono ?_
  rintro _ rfl
  refine (rtx_t (p * q)).mono ?_
  rintro _ rfl
  rfl
set_option maxHeartbeats 4000000 in
theorem op_Div (p q : Rat) (hp : fitQ p = true) (hq : fitQ q = true) (h0 : q ≠ 0) : PureOK Tryz.prog hints 53 [.v .s (ratT p), .v .s (ratT q), .func 64 [] []] (fun V => V = rs (ratR (p / q))) := by
  have hn := twoQ_n hp hq
  refine pure_rule (fn := Tryz.f53) (code := bodyOf Tryz.f53) tys_ok (by kernel_rfl) rfl Tryz.func53 (by kernel_rfl) (Nat.le_of_ble_eq_true (by kernel_rfl)) ?_
  refine And.intro (show 0 + 2 ≤ 2 by decide) ?_
  refine (CheckAll2_t (ratT p) (ratT q) (fit_le hp) (fit_le hq)).mono ?_
  rintro _ rfl
  refine And.intro (fun h => (nf h hn).elim) (fun _ => ?_)
  refine (Parse_t p hp).mono ?_
  rintro _ rfl
  refine (Parse_t q hq).mono ?_
  rintro _ rfl
  refine (RDiv_t p q (by omega : 2000 ≤ 100000) (fit_ln hp) (fit_ln hq) h0).mono ?_
  rintro _ rfl
  refine (rtx_t (p / q)).mono ?_
  rintro _ rfl
  rfl
set_option maxHeartbeats 4000000 in
theorem op_Neg (p q : Rat) (hp : fitQ p = true) (hq : fitQ q = true) : PureOK Tryz.prog hints 53 [.v .s (ratT p), .v .s (ratT q), .func 56 [] []] (fun V => V = rs (ratR (-p))) := by
  have hn := twoQ_n hp hq
  refine pure_rule (fn := Tryz.f53) (code := bodyOf Tryz.f53) tys_ok (by kernel_rfl) rfl Tryz.func53 (by kernel_rfl) (Nat.le_of_ble_eq_true (by kernel_rfl)) ?_
  refine And.intro (show 0 + 2 ≤ 2 by decide) ?_
  refine (CheckAll2_t (ratT p) (ratT q) (fit_le hp) (fit_le hq)).mono ?_
  rintro _ rfl
  refine And.intro (fun h => (nf h hn).elim) (fun _ => ?_)
  refine (Parse_t p hp).mono ?_
  rintro _ rfl
  refine (Parse_t q hq).mono ?_
  rintro _ rfl
  refine (neg1_t p q (by omega : 2000 ≤ 100000) (fit_ln hp)).mono ?_
  rintro _ rfl
  refine (rtx_t (-p)).mono ?_
  rintro _ rfl
  rfl
theorem QAdd_ok (p q : Rat) (hp : fitQ p = true) (hq : fitQ q = true) : PureOK Tryz.prog hints 18 [.v .s (ratT p), .v .s (ratT q)] (fun V => V = rs (ratR (p + q))) := by
  refine pure_rule (fn := Tryz.f18) (code := bodyOf Tryz.f18) tys_ok (by kernel_rfl) rfl Tryz.func18 (by kernel_rfl) (Nat.le_of_ble_eq_true (by kernel_rfl)) ?_
  refine (op_Add p q hp hq).mono ?_
  rintro _ rfl
  rfl
theorem QAdd_err (a b : List UInt8) (hla : a.length ≤ 9223372036854775806) (hlb : b.length ≤ 9223372036854775806) (hE : twoQ a b ≠ 0) : PureOK Tryz.prog hints 18 [.v .s a, .v .s b] (fun V => V = rs ([], twoQ a b)) := by
  refine pure_rule (fn := Tryz.f18) (code := bodyOf Tryz.f18) tys_ok (by kernel_rfl) rfl Tryz.func18 (by kernel_rfl) (Nat.le_of_ble_eq_true (by kernel_rfl)) ?_
  refine (op_err 54 a b hla hlb hE).mono ?_
  rintro _ rfl
  rfl
theorem QSub_ok (p q : Rat) (hp : fitQ p = true) (hq : fitQ q = true) : PureOK Tryz.prog hints 19 [.v .s (ratT p), .v .s (ratT q)] (fun V => V = rs (ratR (p - q))) := by
  refine pure_rule (fn := Tryz.f19) (code := bodyOf Tryz.f19) tys_ok (by kernel_rfl) rfl Tryz.func19 (by kernel_rfl) (Nat.le_of_ble_eq_true (by kernel_rfl)) ?_
  refine (op_Sub p q hp hq).mono ?_
  rintro _ rfl
  rfl
theorem QSub_err (a b : List UInt8) (hla : a.length ≤ 9223372036854775806) (hlb : b.length ≤ 9223372036854775806) (hE : twoQ a b ≠ 0) : PureOK Tryz.prog hints 19 [.v .s a, .v .s b] (fun V => V = rs ([], twoQ a b)) := by
  refine pure_rule (fn := Tryz.f19) (code := bodyOf Tryz.f19) tys_ok (by kernel_rfl) rfl Tryz.func19 (by kernel_rfl) (Nat.le_of_ble_eq_true (by kernel_rfl)) ?_
  refine (op_err 55 a b hla hlb hE).mono ?_
  rintro _ rfl
  rfl
theorem QMul_ok (p q : Rat) (hp : fitQ p = true) (hq : fitQ q = true) : PureOK Tryz.prog hints 25 [.v .s (ratT p), .v .s (ratT q)] (fun V => V = rs (ratR (p * q))) := by
  refine pure_rule (fn := Tryz.f25) (code := bodyOf Tryz.f25) tys_ok (by kernel_rfl) rfl Tryz.func25 (by kernel_rfl) (Nat.le_of_ble_eq_true (by kernel_rfl)) ?_
  refine (op_Mul p q hp hq).mono ?_
  rintro _ rfl
  rfl
theorem QMul_err (a b : List UInt8) (hla : a.length ≤ 9223372036854775806) (hlb : b.length ≤ 9223372036854775806) (hE : twoQ a b ≠ 0) : PureOK Tryz.prog hints 25 [.v .s a, .v .s b] (fun V => V = rs ([], twoQ a b)) := by
  refine pure_rule (fn := Tryz.f25) (code := bodyOf Tryz.f25) tys_ok (by kernel_rfl) rfl Tryz.func25 (by kernel_rfl) (Nat.le_of_ble_eq_true (by kernel_rfl)) ?_
  refine (op_err 63 a b hla hlb hE).mono ?_
  rintro _ rfl
  rfl
theorem QNeg_ok (p : Rat) (hp : fitQ p = true) : PureOK Tryz.prog hints 20 [.v .s (ratT p)] (fun V => V = rs (ratT (-p), 0)) := by
  refine pure_rule (fn := Tryz.f20) (code := bodyOf Tryz.f20) tys_ok (by kernel_rfl) rfl Tryz.func20 (by kernel_rfl) (Nat.le_of_ble_eq_true (by kernel_rfl)) ?_
  have h := op_Neg p 0 hp fit_zero
  rw [ratT_zero, ratR_fit (fit_neg hp)] at h
  refine h.mono ?_
  rintro _ rfl
  rfl
theorem QNeg_err (a : List UInt8) (hla : a.length ≤ 9223372036854775806) (hE : ratErr a ≠ 0) : PureOK Tryz.prog hints 20 [.v .s a] (fun V => V = rs ([], ratErr a)) := by
  refine pure_rule (fn := Tryz.f20) (code := bodyOf Tryz.f20) tys_ok (by kernel_rfl) rfl Tryz.func20 (by kernel_rfl) (Nat.le_of_ble_eq_true (by kernel_rfl)) ?_
  have h := op_err 56 a [48] hla (by decide) (by rw [twoQ_48]; exact hE)
  rw [twoQ_48] at h
  refine h.mono ?_
  rintro _ rfl
  rfl
theorem QDiv_err (a b : List UInt8) (hla : a.length ≤ 9223372036854775806) (hlb : b.length ≤ 9223372036854775806) (hE : twoQ a b ≠ 0) : PureOK Tryz.prog hints 26 [.v .s a, .v .s b] (fun V => V = rs ([], twoQ a b)) := by
  refine pure_rule (fn := Tryz.f26) (code := bodyOf Tryz.f26) tys_ok (by kernel_rfl) rfl Tryz.func26 (by kernel_rfl) (Nat.le_of_ble_eq_true (by kernel_rfl)) ?_
  refine And.intro (show 0 + 2 ≤ 2 by decide) ?_
  refine (CheckAll2_t a b hla hlb).mono ?_
  rintro _ rfl
  have hn : (!decide (twoQ a b = 0)) = true := by rw [decide_eq_false hE]; rfl
  exact And.intro (fun _ => rfl) (fun h => (nf hn h).elim)
/-- What rat.Div answers. -/
def divR2 (p q : Rat) : List UInt8 × Int := match decide (q = 0) with
  | true => ([], 10)
  | false => ratR (p / q)
theorem QDiv_ok (p q : Rat) (hp : fitQ p = true) (hq : fitQ q = true) : PureOK Tryz.prog hints 26 [.v .s (ratT p), .v .s (ratT q)] (fun V => V = rs (divR2 p q)) := by
  refine pure_rule (fn := Tryz.f26) (code := bodyOf Tryz.f26) tys_ok (by kernel_rfl) rfl Tryz.func26 (by kernel_rfl) (Nat.le_of_ble_eq_true (by kernel_rfl)) ?_
  have hn := twoQ_n hp hq
  have hz := ratT_is_zero q
  refine And.intro (show 0 + 2 ≤ 2 by decide) ?_
  refine (CheckAll2_t (ratT p) (ratT q) (fit_le hp) (fit_le hq)).mono ?_
  rintro _ rfl
  refine And.intro (fun h => (nf h hn).elim) (fun _ => ?_)
  refine And.intro (fun h => ?_) (fun h => ?_)
  · have h' : (ratT q == [48]) = true := h
    rw [hz] at h'
    simp only [divR2, h']
    rfl
  · have h' : (ratT q == [48]) = false := h
    rw [hz] at h'
    refine (op_Div p q hp hq (of_decide_eq_false h')).mono ?_
    rintro _ rfl
    simp only [divR2, h']
    rfl
theorem Compare_err (a b : List UInt8) (hla : a.length ≤ 9223372036854775806) (hlb : b.length ≤ 9223372036854775806) (hE : twoQ a b ≠ 0) : PureOK Tryz.prog hints 28 [.v .s a, .v .s b] (fun V => V = .tup [.v (.i .i64) (0 : Int), .v (.i .i64) (twoQ a b)]) := by
  refine pure_rule (fn := Tryz.f28) (code := bodyOf Tryz.f28) tys_ok (by kernel_rfl) rfl Tryz.func28 (by kernel_rfl) (Nat.le_of_ble_eq_true (by kernel_rfl)) ?_
  refine And.intro (show 0 + 2 ≤ 2 by decide) ?_
  refine (CheckAll2_t a b hla hlb).mono ?_
  rintro _ rfl
  have hn : (!decide (twoQ a b = 0)) = true := by rw [decide_eq_false hE]; rfl
  exact And.intro (fun _ => rfl) (fun h => (nf hn h).elim)
theorem Compare_ok (p q : Rat) (hp : fitQ p = true) (hq : fitQ q = true) : PureOK Tryz.prog hints 28 [.v .s (ratT p), .v .s (ratT q)] (fun V => V = .tup [.v (.i .i64) (cmpQ p q), .v (.i .i64) (0 : Int)]) := by
  refine pure_rule (fn := Tryz.f28) (code := bodyOf Tryz.f28) tys_ok (by kernel_rfl) rfl Tryz.func28 (by kernel_rfl) (Nat.le_of_ble_eq_true (by kernel_rfl)) ?_
  have hn := twoQ_n hp hq
  refine And.intro (show 0 + 2 ≤ 2 by decide) ?_
  refine (CheckAll2_t (ratT p) (ratT q) (fit_le hp) (fit_le hq)).mono ?_
  rintro _ rfl
  refine And.intro (fun h => (nf h hn).elim) (fun _ => ?_)
  refine (Parse_t p hp).mono ?_
  rintro _ rfl
  refine (Parse_t q hq).mono ?_
  rintro _ rfl
  refine (RCmp_t p q (by omega : 2000 ≤ 100000) (fit_ln hp) (fit_ln hq)).mono ?_
  rintro _ rfl
  rfl
theorem cmpQ_zero (p : Rat) : cmpQ p 0 = p.num.sign := by
  rw [cmpQ, Rat.zero_num, Rat.zero_den, Int.zero_mul, Int.sub_zero]
  show (p.num * 1).sign = _
  rw [Int.mul_one]
theorem QSign_ok (p : Rat) (hp : fitQ p = true) : PureOK Tryz.prog hints 29 [.v .s (ratT p)] (fun V => V = .tup [.v (.i .i64) p.num.sign, .v (.i .i64) (0 : Int)]) := by
  refine pure_rule (fn := Tryz.f29) (code := bodyOf Tryz.f29) tys_ok (by kernel_rfl) rfl Tryz.func29 (by kernel_rfl) (Nat.le_of_ble_eq_true (by kernel_rfl)) ?_
  have h := Compare_ok p 0 hp fit_zero
  rw [ratT_zero, cmpQ_zero] at h
  refine h.mono ?_
  rintro _ rfl
  rfl
theorem QSign_err (a : List UInt8) (hla : a.length ≤ 9223372036854775806) (hE : ratErr a ≠ 0) : PureOK Tryz.prog hints 29 [.v .s a] (fun V => V = .tup [.v (.i .i64) (0 : Int), .v (.i .i64) (ratErr a)]) := by
  refine pure_rule (fn := Tryz.f29) (code := bodyOf Tryz.f29) tys_ok (by kernel_rfl) rfl Tryz.func29 (by kernel_rfl) (Nat.le_of_ble_eq_true (by kernel_rfl)) ?_
  have h := Compare_err a [48] hla (by decide) (by rw [twoQ_48]; exact hE)
  rw [twoQ_48] at h
  refine h.mono ?_
  rintro _ rfl
  rfl
def ofR (n d : Int) : List UInt8 × Int := match decide (d = 0) with
  | true => ([], 10)
  | false => ratR (Rat.divInt n d)
theorem QOf_t (n d : Int) (hn0 : -9223372036854775808 ≤ n) (hn1 : n < 9223372036854775808) (hd0 : -9223372036854775808 ≤ d) (hd1 : d < 9223372036854775808) : PureOK Tryz.prog hints 15 [.v (.i .i64) n, .v (.i .i64) d] (fun V => V = rs (ofR n d)) := by
  refine pure_rule (fn := Tryz.f15) (code := bodyOf Tryz.f15) tys_ok (by kernel_rfl) rfl Tryz.func15 (by kernel_rfl) (Nat.le_of_ble_eq_true (by kernel_rfl)) ?_
  refine And.intro (fun h => ?_) (fun h => ?_)
  · have h' : decide (d = 0) = true := h
    simp only [ofR, h']
    rfl
  · have h' : decide (d = 0) = false := h
    refine (Frac_t n d hn0 hn1 hd0 hd1 (of_decide_eq_false h')).mono ?_
    rintro _ rfl
    refine (rtx_t (Rat.divInt n d)).mono ?_
    rintro _ rfl
    simp only [ofR, h']
    rfl
end Go.Proofs.YtlnimeapichgmaaGreatDoor
