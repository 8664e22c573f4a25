/-
  Integers of any size as values: Neg, Sign, Of.
-/
import Derived.Test.YtnfgnkbgajhhbaaGreatDoorT2
import Derived.Test.YtnfgnkbgajhhbaaGreatDoorTx9
set_option linter.constructorNameAsVariable false
set_option linter.unusedSimpArgs false
set_option linter.unusedVariables false
namespace Go.Proofs.YtnfgnkbgajhhbaaGreatDoor
open Go.Am Go.Tx Dv
set_option maxRecDepth 100000
abbrev IS (v : Int) : SV := .agg [.v .b (decide (v < 0)), u32s (wOf v.natAbs)]
def sg (m : Bool) (x : Int) : Int := match m with | true => -x | false => x
theorem norm_is (m : Bool) (a : List Int) (ha : Wd a) (hl : a.length ≤ 1000000) : PureOK Tryz.prog hints 121 [.v .b m, u32s a] (fun V => V = IS (sg m (wv a))) := by
  refine (norm_t m a ha hl).mono ?_
  rintro _ ⟨s, rfl, h1, h2, _, h4⟩
  have h0 := wv_nonneg ha
  have hs : s = wOf (wv a).toNat := wOf_uniq h1 h2 (by omega)
  have hab : (sg m (wv a)).natAbs = (wv a).toNat := by cases m <;> simp only [sg] <;> omega
  have hb : (m && decide (0 < (s.length : Int))) = decide (sg m (wv a) < 0) := by
    have hl0 : s.length = 0 ↔ wv a = 0 := by
      rw [List.length_eq_zero_iff, hs, wOf_nil]; omega
    cases m with
    | true =>
      simp only [Bool.true_and, sg]
      refine decide_eq_decide.2 ?_
      constructor
      · intro h; have := mt hl0.2; omega
      · intro h; have := mt hl0.1; omega
    | false =>
      simp only [Bool.false_and, sg]
      exact (decide_eq_false (by omega)).symm
  show SV.agg [.v .b (m && decide (0 < (s.length : Int))), u32s s] = SV.agg [.v .b (decide (sg m (wv a) < 0)), u32s (wOf (sg m (wv a)).natAbs)]
  rw [hb, hab, ← hs]
set_option maxHeartbeats 4000000 in
theorem Neg_t (v : Int) (hl : ln v ≤ 1000000) : PureOK Tryz.prog hints 125 [IS v] (fun V => V = IS (-v)) := by
  refine pure_rule (fn := Tryz.f125) (code := bodyOf Tryz.f125) tys_ok (by kernel_rfl) rfl Tryz.func125 (by kernel_rfl) (Nat.le_of_ble_eq_true (by kernel_rfl)) ?_
  refine And.intro rfl ?_
  refine And.intro rfl ?_
  refine (norm_is _ _ (wd_wOf _) hl).mono ?_
  rintro _ rfl
  refine And.intro rfl ?_
  refine And.intro rfl ?_
  have : sg (!decide (v < 0)) (wv (wOf v.natAbs)) = -v := by
    rw [wv_wOf]
    by_cases h : v < 0
    · rw [decide_eq_true h]; simp only [sg, Bool.not_true]; omega
    · rw [decide_eq_false h]; simp only [sg, Bool.not_false]; omega
  show IS (sg (!decide (v < 0)) (wv (wOf v.natAbs))) = IS (-v)
  rw [this]
set_option maxHeartbeats 4000000 in
theorem Sign_t (v : Int) : PureOK Tryz.prog hints 119 [IS v] (fun V => V = .v (.i .i64) v.sign) := by
  refine pure_rule (fn := Tryz.f119) (code := bodyOf Tryz.f119) tys_ok (by kernel_rfl) rfl Tryz.func119 (by kernel_rfl) (Nat.le_of_ble_eq_true (by kernel_rfl)) ?_
  refine And.intro rfl ?_
  refine And.intro (fun h => ?_) (fun h => ?_)
  · have h' : ((wOf v.natAbs).length : Int) = 0 := of_decide_eq_true h
    have : v = 0 := by
      have := wOf_nil.1 (List.length_eq_zero_iff.1 (show (wOf v.natAbs).length = 0 by omega)); omega
    subst this
    rfl
  · have h' : ¬ ((wOf v.natAbs).length : Int) = 0 := of_decide_eq_false h
    have hv : v ≠ 0 := by
      rintro rfl
      exact h' (by rw [show (0 : Int).natAbs = 0 from rfl, wOf_zero]; rfl)
    refine And.intro rfl ?_
    refine And.intro (fun h2 => ?_) (fun h2 => ?_)
    · have h3 : v < 0 := of_decide_eq_true h2
      show SV.v (.i .i64) (-1 : Int) = SV.v (.i .i64) v.sign
      rw [Int.sign_eq_neg_one_of_neg h3]
    · have h3 : ¬ v < 0 := of_decide_eq_false h2
      show SV.v (.i .i64) (1 : Int) = SV.v (.i .i64) v.sign
      rw [Int.sign_eq_one_of_pos (by omega)]
theorem u64_wrap (x : Int) : IntKind.u64.wrap x = x % 18446744073709551616 := by
  unfold IntKind.wrap IntKind.signed IntKind.bits
  simp
set_option maxHeartbeats 4000000 in
theorem Of_t (n : Int) (h0 : -9223372036854775808 ≤ n) (h1 : n < 9223372036854775808) : PureOK Tryz.prog hints 109 [.v (.i .i64) n] (fun V => V = IS n) := by
  refine pure_rule (fn := Tryz.f109) (code := bodyOf Tryz.f109) tys_ok (by kernel_rfl) rfl Tryz.func109 (by kernel_rfl) (Nat.le_of_ble_eq_true (by kernel_rfl)) ?_
  have fin : ∀ (m : Bool) (x : Int), 0 ≤ x → x < 18446744073709551616 → sg m x = n → PureOK Tryz.prog hints 121 [.v .b m, u32s [IntKind.u32.wrap x, IntKind.u32.wrap (x.fdiv (2 ^ min (Int.toNat 32) IntKind.u64.bits))]] (fun V => V = IS n) := by
    intro m x hx0 hx1 hs
    have e1 : IntKind.u32.wrap x = x % 4294967296 := u32_wrap x
    have e2 : IntKind.u32.wrap (x.fdiv (2 ^ min (Int.toNat 32) IntKind.u64.bits)) = x / 4294967296 := by rw [shr32, u32_wrap]; omega
    rw [e1, e2]
    refine (norm_is m _ ?_ (by simp)).mono ?_
    · intro y hy
      simp only [List.mem_cons, List.not_mem_nil, or_false] at hy
      rcases hy with rfl | rfl <;> omega
    · rintro _ rfl
      have : wv [x % 4294967296, x / 4294967296] = x := by simp only [wv]; omega
      rw [this, hs]
  refine And.intro (fun h => ?_) (fun h => ?_)
  · have hn : n < 0 := of_decide_eq_true h
    have e : IntKind.u64.wrap (0 - IntKind.u64.wrap n) = -n := by rw [u64_wrap, u64_wrap]; omega
    refine And.intro (by decide) ?_
    refine And.intro (by show 0 + 2 ≤ 2; decide) ?_
    refine (fin (decide (n < 0)) (IntKind.u64.wrap (0 - IntKind.u64.wrap n)) (by rw [e]; omega) (by rw [e]; omega) (by rw [e, h]; simp only [sg]; omega)).mono ?_
    rintro _ rfl
    exact ⟨rfl, rfl, rfl⟩
  · have hn : ¬ n < 0 := of_decide_eq_false h
    have e : IntKind.u64.wrap n = n := by rw [u64_wrap]; omega
    refine And.intro (by decide) ?_
    refine And.intro (by show 0 + 2 ≤ 2; decide) ?_
    refine (fin (decide (n < 0)) (IntKind.u64.wrap n) (by rw [e]; omega) (by rw [e]; omega) (by rw [e, h]; simp only [sg])).mono ?_
    rintro _ rfl
    exact ⟨rfl, rfl, rfl⟩
end Go.Proofs.YtnfgnkbgajhhbaaGreatDoor
/-
  Long division by words: the plain law of one digit of the quotient.
-/
namespace Dv
section
variable {P U V U' V' v1 v2 u2 top q g rest : Int}
theorem guess_ge (hP : 0 < P) (hV : V = (v1 * 4294967296 + v2) * P + V') (hV0 : 0 ≤ V') (h2 : 0 ≤ v2) (hU : U = (top * 4294967296 + u2) * P + U') (hU1 : U' < P) (hu : u2 < 4294967296) (hv : 0 < v1) (hq0 : 0 ≤ q) (hq : q * V ≤ U) : q ≤ top / v1 := by
  have e1 : q * V = q * v1 * (4294967296 * P) + (q * v2 * P + q * V') := by rw [hV]; grind
  have p1 : 0 ≤ q * v2 * P := Int.mul_nonneg (Int.mul_nonneg hq0 h2) (by omega)
  have p2 : 0 ≤ q * V' := Int.mul_nonneg hq0 hV0
  have p3 : u2 * P ≤ 4294967295 * P := Int.mul_le_mul_of_nonneg_right (by omega) (by omega)
  have e2 : U = top * (4294967296 * P) + u2 * P + U' := by rw [hU]; grind
  have h1 : q * v1 * (4294967296 * P) < (top + 1) * (4294967296 * P) := by
    have e3 : (top + 1) * (4294967296 * P) = top * (4294967296 * P) + 4294967296 * P := by grind
    omega
  have h3 := Int.lt_of_mul_lt_mul_right h1 (by omega)
  rw [Int.le_ediv_iff_mul_le hv]
  omega
theorem guess_step (hP : 0 < P) (hV : V = (v1 * 4294967296 + v2) * P + V') (hV0 : 0 ≤ V') (hV1 : 0 < V) (hU : U = (top * 4294967296 + u2) * P + U') (hU1 : U' < P) (hg : 0 ≤ g) (hr : g * v1 + rest = top) (hc : rest * 4294967296 + u2 < g * v2) (hq : q * V ≤ U) : q < g := by
  have h1 : top * 4294967296 + u2 + 1 ≤ g * (v1 * 4294967296 + v2) := by
    have : g * (v1 * 4294967296 + v2) = g * v1 * 4294967296 + g * v2 := by grind
    omega
  have h2 := Int.mul_le_mul_of_nonneg_right h1 (Int.le_of_lt hP)
  have e1 : g * V = g * (v1 * 4294967296 + v2) * P + g * V' := by rw [hV]; grind
  have p1 : 0 ≤ g * V' := Int.mul_nonneg hg hV0
  have e2 : (top * 4294967296 + u2 + 1) * P = (top * 4294967296 + u2) * P + P := by grind
  have h3 : q * V < g * V := by omega
  exact Int.lt_of_mul_lt_mul_right h3 (by omega)
theorem guess_le (hP : 0 < P) (hV : V = (v1 * 4294967296 + v2) * P + V') (hV0 : 0 ≤ V') (hV1 : V' < P) (h2 : 0 ≤ v2) (hv : 0 < v1) (hU : U = (top * 4294967296 + u2) * P + U') (hU0 : 0 ≤ U') (hg0 : 0 ≤ g) (hg1 : g < 4294967296) (hc : g * (v1 * 4294967296 + v2) ≤ top * 4294967296 + u2) : g * V - V ≤ U := by
  have h3 := Int.mul_le_mul_of_nonneg_right hc (Int.le_of_lt hP)
  have e1 : g * V = g * (v1 * 4294967296 + v2) * P + g * V' := by rw [hV]; grind
  have p1 : g * V' ≤ g * P := Int.mul_le_mul_of_nonneg_left (by omega) hg0
  have p2 : g * P ≤ 4294967296 * P := Int.mul_le_mul_of_nonneg_right (by omega) (by omega)
  have p3 : (1 : Int) * (4294967296 * P) ≤ v1 * (4294967296 * P) := Int.mul_le_mul_of_nonneg_right (by omega) (by omega)
  have e2 : V = v1 * (4294967296 * P) + v2 * P + V' := by rw [hV]; grind
  have p4 : 0 ≤ v2 * P := Int.mul_nonneg h2 (by omega)
  omega
theorem guess_test (hr : g * v1 + rest = top) (hc : g * v2 ≤ rest * 4294967296 + u2) : g * (v1 * 4294967296 + v2) ≤ top * 4294967296 + u2 := by
  have : g * (v1 * 4294967296 + v2) = g * v1 * 4294967296 + g * v2 := by grind
  omega
theorem guess_break (hr : g * v1 + rest = top) (hrest : 4294967296 ≤ rest) (hg0 : 0 ≤ g) (hg1 : g < 4294967296) (h2 : 0 ≤ v2) (h3 : v2 < 4294967296) (hu : 0 ≤ u2) : g * (v1 * 4294967296 + v2) ≤ top * 4294967296 + u2 := by
  have e1 : g * (v1 * 4294967296 + v2) = g * v1 * 4294967296 + g * v2 := by grind
  have p1 : g * v2 ≤ 4294967296 * v2 := Int.mul_le_mul_of_nonneg_right (by omega) h2
  omega
end
end Dv
/-
  Operations one at a time, each by an equation: the goals stay small.
-/
set_option linter.unusedSimpArgs false
set_option linter.unusedVariables false
namespace Go.Tx
open Go.Am
section
variable {P : Program} {h : Hints} {T : TypeId → TI} {N : Nat} {ds : List (Option Tmp)} {o : Oper} {l : List Oper} {tm : TM} {hp : List SM} {k : TM → List SM → Prop} {j d dd : Nat} {w t : Bool} {V : SV}
theorem wpg_skip (hg : o.guard = some (j, w)) (hd : nth ds j = some (some d)) (ht : getS d tm = some (.v .b t)) (hw : t = !w) (ho : o.dst = some dd) (hN : Nat.ble (dd + 1) N = true) (hk : wpOps P h T N ds l ((dd, .tup []) :: tm) hp k) : wpOps P h T N ds (o :: l) tm hp k := by
  simp only [wpOps, hg, hd, ht]
  refine ⟨fun h => ?_, fun _ => ?_⟩
  · rw [hw] at h; cases w <;> cases h
  · simp only [putS, ho, hN]; exact hk
theorem wpg_run (hg : o.guard = some (j, w)) (hd : nth ds j = some (some d)) (ht : getS d tm = some (.v .b t)) (hw : t = w) (hk : opT P h T o.op tm hp fun V hp' => putS N o.dst V tm fun tm' => wpOps P h T N ds l tm' hp' k) : wpOps P h T N ds (o :: l) tm hp k := by
  simp only [wpOps, hg, hd, ht]
  refine ⟨fun _ => hk, fun h => ?_⟩
  rw [hw] at h; cases w <;> cases h
theorem wpg_op (hg : o.guard = none) (hk : opT P h T o.op tm hp fun V hp' => putS N o.dst V tm fun tm' => wpOps P h T N ds l tm' hp' k) : wpOps P h T N ds (o :: l) tm hp k := by
  simp only [wpOps, hg]; exact hk
theorem wpg_put {dst : Option Tmp} {c : TM → Prop} (ho : dst = some dd) (hN : Nat.ble (dd + 1) N = true) (hk : c ((dd, V) :: tm)) : putS N dst V tm c := by
  simp only [putS, ho, hN]; exact hk
theorem wpg_v (hg : o.guard = none) (he : ∀ k, opT P h T o.op tm hp k = k V hp) (ho : o.dst = some dd) (hN : Nat.ble (dd + 1) N = true) (hk : wpOps P h T N ds l ((dd, V) :: tm) hp k) : wpOps P h T N ds (o :: l) tm hp k := by
  refine wpg_op hg ?_
  rw [he]
  have hk := wpg_put (c := fun tm' => wpOps P h T N ds l tm' hp k) (V := V) (tm := tm) ho hN hk
  exact hk
theorem wpg_vg (hg : o.guard = some (j, w)) (hd : nth ds j = some (some d)) (ht : getS d tm = some (.v .b t)) (hw : t = w) (he : ∀ k, opT P h T o.op tm hp k = k V hp) (ho : o.dst = some dd) (hN : Nat.ble (dd + 1) N = true) (hk : wpOps P h T N ds l ((dd, V) :: tm) hp k) : wpOps P h T N ds (o :: l) tm hp k := by
  refine wpg_run hg hd ht hw ?_
  rw [he]
  have hk := wpg_put (c := fun tm' => wpOps P h T N ds l tm' hp k) (V := V) (tm := tm) ho hN hk
  exact hk
theorem wpg_c {C : Prop} (hg : o.guard = none) (he : ∀ k, opT P h T o.op tm hp k = (C ∧ k V hp)) (hc : C) (ho : o.dst = some dd) (hN : Nat.ble (dd + 1) N = true) (hk : wpOps P h T N ds l ((dd, V) :: tm) hp k) : wpOps P h T N ds (o :: l) tm hp k := by
  refine wpg_op hg ?_
  rw [he]
  have hk := wpg_put (c := fun tm' => wpOps P h T N ds l tm' hp k) (V := V) (tm := tm) ho hN hk
  exact ⟨hc, hk⟩
theorem wpg_cg {C : Prop} (hg : o.guard = some (j, w)) (hd : nth ds j = some (some d)) (ht : getS d tm = some (.v .b t)) (hw : t = w) (he : ∀ k, opT P h T o.op tm hp k = (C ∧ k V hp)) (hc : C) (ho : o.dst = some dd) (hN : Nat.ble (dd + 1) N = true) (hk : wpOps P h T N ds l ((dd, V) :: tm) hp k) : wpOps P h T N ds (o :: l) tm hp k := by
  refine wpg_run hg hd ht hw ?_
  rw [he]
  have hk := wpg_put (c := fun tm' => wpOps P h T N ds l tm' hp k) (V := V) (tm := tm) ho hN hk
  exact ⟨hc, hk⟩
theorem wpg_x {α : Type} {C : α → Prop} {W : α → SV} {x : α} (hg : o.guard = none) (he : ∀ k, opT P h T o.op tm hp k = ∃ x, C x ∧ k (W x) hp) (hc : C x) (ho : o.dst = some dd) (hN : Nat.ble (dd + 1) N = true) (hk : wpOps P h T N ds l ((dd, (W x)) :: tm) hp k) : wpOps P h T N ds (o :: l) tm hp k := by
  refine wpg_op hg ?_
  rw [he]
  have hk := wpg_put (c := fun tm' => wpOps P h T N ds l tm' hp k) (V := (W x)) (tm := tm) ho hN hk
  exact ⟨x, hc, hk⟩
theorem wpg_xg {α : Type} {C : α → Prop} {W : α → SV} {x : α} (hg : o.guard = some (j, w)) (hd : nth ds j = some (some d)) (ht : getS d tm = some (.v .b t)) (hw : t = w) (he : ∀ k, opT P h T o.op tm hp k = ∃ x, C x ∧ k (W x) hp) (hc : C x) (ho : o.dst = some dd) (hN : Nat.ble (dd + 1) N = true) (hk : wpOps P h T N ds l ((dd, (W x)) :: tm) hp k) : wpOps P h T N ds (o :: l) tm hp k := by
  refine wpg_run hg hd ht hw ?_
  rw [he]
  have hk := wpg_put (c := fun tm' => wpOps P h T N ds l tm' hp k) (V := (W x)) (tm := tm) ho hN hk
  exact ⟨x, hc, hk⟩
theorem wpg_y {α : Type} {A : Prop} {C : α → Prop} {W : α → SV} {x : α} (hg : o.guard = none) (he : ∀ k, opT P h T o.op tm hp k = ∃ x, A ∧ C x ∧ k (W x) hp) (ha : A) (hc : C x) (ho : o.dst = some dd) (hN : Nat.ble (dd + 1) N = true) (hk : wpOps P h T N ds l ((dd, (W x)) :: tm) hp k) : wpOps P h T N ds (o :: l) tm hp k := by
  refine wpg_op hg ?_
  rw [he]
  have hk := wpg_put (c := fun tm' => wpOps P h T N ds l tm' hp k) (V := (W x)) (tm := tm) ho hN hk
  exact ⟨x, ha, hc, hk⟩
theorem wpg_yg {α : Type} {A : Prop} {C : α → Prop} {W : α → SV} {x : α} (hg : o.guard = some (j, w)) (hd : nth ds j = some (some d)) (ht : getS d tm = some (.v .b t)) (hw : t = w) (he : ∀ k, opT P h T o.op tm hp k = ∃ x, A ∧ C x ∧ k (W x) hp) (ha : A) (hc : C x) (ho : o.dst = some dd) (hN : Nat.ble (dd + 1) N = true) (hk : wpOps P h T N ds l ((dd, (W x)) :: tm) hp k) : wpOps P h T N ds (o :: l) tm hp k := by
  refine wpg_run hg hd ht hw ?_
  rw [he]
  have hk := wpg_put (c := fun tm' => wpOps P h T N ds l tm' hp k) (V := (W x)) (tm := tm) ho hN hk
  exact ⟨x, ha, hc, hk⟩
theorem wpg_pt {c a b : Operand} (hg : o.guard = none) (hop : o.op = .pick c a b) (hc : evS tm c = some (.v .b t)) (ht : t = true) (ha : evS tm a = some V) (ho : o.dst = some dd) (hN : Nat.ble (dd + 1) N = true) (hk : wpOps P h T N ds l ((dd, V) :: tm) hp k) : wpOps P h T N ds (o :: l) tm hp k := by
  refine wpg_op hg ?_
  rw [hop]
  have hk := wpg_put (c := fun tm' => wpOps P h T N ds l tm' hp k) (V := V) (tm := tm) ho hN hk
  subst ht
  simp [opT, hc, ha]
  exact hk
theorem wpg_pf {c a b : Operand} (hg : o.guard = none) (hop : o.op = .pick c a b) (hc : evS tm c = some (.v .b t)) (ht : t = false) (ha : evS tm b = some V) (ho : o.dst = some dd) (hN : Nat.ble (dd + 1) N = true) (hk : wpOps P h T N ds l ((dd, V) :: tm) hp k) : wpOps P h T N ds (o :: l) tm hp k := by
  refine wpg_op hg ?_
  rw [hop]
  have hk := wpg_put (c := fun tm' => wpOps P h T N ds l tm' hp k) (V := V) (tm := tm) ho hN hk
  subst ht
  simp [opT, hc, ha]
  exact hk
theorem wp_hp {F : Nat} {c : Cx} {b : Code} {tm : TM} {hp : List SM} {k : Ex → TM → List SM → Prop} (hp' : List SM) (he : hp = hp') (hk : wp P h T F c b tm hp' k) : wp P h T F c b tm hp k := he ▸ hk
theorem wpg_skipT (hg : o.guard = some (j, w)) (hd : nth ds j = some (some d)) (ht : getS d tm = some (.tup [])) (ho : o.dst = some dd) (hN : Nat.ble (dd + 1) N = true) (hk : wpOps P h T N ds l ((dd, .tup []) :: tm) hp k) : wpOps P h T N ds (o :: l) tm hp k := by
  simp only [wpOps, hg, hd, ht, putS, ho, hN]
  exact hk
theorem wpg_ptg {c a b : Operand} {t' : Bool} (hg : o.guard = some (j, w)) (hd : nth ds j = some (some d)) (htg : getS d tm = some (.v .b t')) (hw : t' = w) (hop : o.op = .pick c a b) (hc : evS tm c = some (.v .b t)) (ht : t = true) (ha : evS tm a = some V) (ho : o.dst = some dd) (hN : Nat.ble (dd + 1) N = true) (hk : wpOps P h T N ds l ((dd, V) :: tm) hp k) : wpOps P h T N ds (o :: l) tm hp k := by
  refine wpg_run hg hd htg hw ?_
  rw [hop]
  have hk := wpg_put (c := fun tm' => wpOps P h T N ds l tm' hp k) (V := V) (tm := tm) ho hN hk
  subst ht
  simp [opT, hc, ha]
  exact hk
theorem wpg_pfg {c a b : Operand} {t' : Bool} (hg : o.guard = some (j, w)) (hd : nth ds j = some (some d)) (htg : getS d tm = some (.v .b t')) (hw : t' = w) (hop : o.op = .pick c a b) (hc : evS tm c = some (.v .b t)) (ht : t = false) (ha : evS tm b = some V) (ho : o.dst = some dd) (hN : Nat.ble (dd + 1) N = true) (hk : wpOps P h T N ds l ((dd, V) :: tm) hp k) : wpOps P h T N ds (o :: l) tm hp k := by
  refine wpg_run hg hd htg hw ?_
  rw [hop]
  have hk := wpg_put (c := fun tm' => wpOps P h T N ds l tm' hp k) (V := V) (tm := tm) ho hN hk
  subst ht
  simp [opT, hc, ha]
  exact hk
theorem wpg_block {F : Nat} {c : Cx} {id : Nat} {b : Code} {k : Ex → TM → List SM → Prop} (hk : h.keepB c.fid id = none) (hb : wp P h T F c b tm hp (blkK id k)) : wp P h T F c (.block id b) tm hp k := by
  simp only [wp, hk]; exact hb
theorem wpg_nil (hk : k tm hp) : wpOps P h T N ds [] tm hp k := hk
theorem wpg_seq {F : Nat} {c : Cx} {a b : Code} {k : Ex → TM → List SM → Prop} (hk : wp P h T F c a tm hp (seqK k fun tm' hp' => wp P h T F c b tm' hp' k)) : wp P h T F c (.seq a b) tm hp k := hk
theorem wpg_region {F : Nat} {c : Cx} {id : Nat} {ops : Array Oper} {dr : Bool} {k : Ex → TM → List SM → Prop} (hl : h.light c.fid id = []) (hk : wpOps P h T c.N (dsts ops.toList) ops.toList tm hp fun tm' hp' => k .normal tm' hp') : wp P h T F c (.region id ops dr) tm hp k := by
  simp only [wp, hl]; exact hk
end
end Go.Tx