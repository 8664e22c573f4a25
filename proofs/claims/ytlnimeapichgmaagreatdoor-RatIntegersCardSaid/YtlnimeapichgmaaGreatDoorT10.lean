/-
  math/bits.LeadingZeros32.
-/
import Derived.Test.YtlnimeapichgmaaGreatDoorW1
set_option linter.constructorNameAsVariable false
set_option linter.unusedSimpArgs false
set_option linter.unusedVariables false
namespace Go.Proofs.YtlnimeapichgmaaGreatDoor
open Go.Am Go.Tx Dv
set_option maxRecDepth 100000
def len8 : List UInt8 := [0, 1] ++ List.replicate 2 2 ++ List.replicate 4 3 ++ List.replicate 8 4 ++ List.replicate 16 5 ++ List.replicate 32 6 ++ List.replicate 64 7 ++ List.replicate 128 8
theorem len8_fin : ∀ j : Fin 256, ∃ L : Fin 9, len8[j.val]? = some (UInt8.ofNat L.val) ∧ j.val < 2 ^ L.val ∧ (1 ≤ j.val → 1 ≤ L.val ∧ 2 ^ (L.val - 1) ≤ j.val) := by decide +kernel
theorem len8_at (j : Int) (h0 : 0 ≤ j) (h1 : j < 256) : ∃ L : Nat, len8[j.toNat]? = some (UInt8.ofNat L) ∧ L ≤ 8 ∧ (UInt8.ofNat L).toNat = L ∧ j < 2 ^ L ∧ (1 ≤ j → 1 ≤ L ∧ 2 ^ (L - 1) ≤ j) := by
  obtain ⟨⟨L, hL⟩, h2, h3, h4⟩ := len8_fin ⟨j.toNat, by omega⟩
  simp only at h2 h3 h4
  refine ⟨L, h2, by omega, by rw [UInt8.toNat_ofNat']; omega, ?_, fun h => ?_⟩
  · have : ((j.toNat : Nat) : Int) < ((2 ^ L : Nat) : Int) := Int.ofNat_lt.2 h3
    rw [Int.natCast_pow] at this
    have e : ((2 : Nat) : Int) = 2 := rfl
    rw [e] at this
    omega
  · obtain ⟨h5, h6⟩ := h4 (by omega)
    have : ((2 ^ (L - 1) : Nat) : Int) ≤ ((j.toNat : Nat) : Int) := Int.ofNat_le.2 h6
    rw [Int.natCast_pow] at this
    have e : ((2 : Nat) : Int) = 2 := rfl
    rw [e] at this
    exact ⟨h5, by omega⟩
theorem u8_small {x : Int} (h0 : 0 ≤ x) (h1 : x < 256) : IntKind.u8.wrap x = x := by
  unfold IntKind.wrap IntKind.signed IntKind.bits
  simp only [Bool.false_and, Bool.false_eq_true, if_false]
  omega
theorem shr_u32 (x : Int) (k : Nat) (hk : k ≤ 32) : x.fdiv (2 ^ min k IntKind.u32.bits) = x / 2 ^ k := by
  have : min k IntKind.u32.bits = k := by show min k 32 = k; omega
  rw [this, Int.fdiv_eq_ediv_of_nonneg _ (Int.le_of_lt (Int.pow_pos (by decide)))]
/-- What the table's entry comes to. -/
theorem len_fin {x y : Int} {k L : Nat} (hy : y = x / 2 ^ k) (h2 : y < 2 ^ L) (h3 : 1 ≤ y → 1 ≤ L ∧ 2 ^ (L - 1) ≤ y) (hx : 1 ≤ x → 1 ≤ y) : x < 2 ^ (k + L) ∧ (1 ≤ x → 1 ≤ k + L ∧ 2 ^ (k + L - 1) ≤ x) := by
  have hp : (0 : Int) < 2 ^ k := Int.pow_pos (by decide)
  constructor
  · rw [Int.pow_add, Int.mul_comm]
    exact Int.lt_mul_of_ediv_lt hp (hy ▸ h2)
  · intro h
    obtain ⟨h4, h5⟩ := h3 (hx h)
    refine ⟨by omega, ?_⟩
    rw [show k + L - 1 = k + (L - 1) by omega, Int.pow_add, Int.mul_comm]
    exact (Int.le_ediv_iff_mul_le hp).1 (hy ▸ h5)
theorem j0 (a b : Int) (e : a = b) (h : 0 ≤ b) : 0 ≤ a := by omega
set_option maxHeartbeats 4000000 in
theorem Len32_t (x : Int) (h0 : 0 ≤ x) (h1 : x < 4294967296) : PureOK Tryz.prog hints 134 [.v (.i .u32) x] (fun V => ∃ L : Nat, V = .v (.i .i64) (L : Int) ∧ L ≤ 32 ∧ x < 2 ^ L ∧ (1 ≤ x → 1 ≤ L ∧ 2 ^ (L - 1) ≤ x)) := by
  refine pure_rule (fn := Tryz.f134) (code := bodyOf Tryz.f134) tys_ok (by kernel_rfl) rfl Tryz.func134 (by kernel_rfl) (Nat.le_of_ble_eq_true (by kernel_rfl)) ?_
  have e16 : x.fdiv (2 ^ min (Int.toNat 16) IntKind.u32.bits) = x / 65536 := shr_u32 x 16 (by decide)
  have e8 : ∀ x : Int, x.fdiv (2 ^ min (Int.toNat 8) IntKind.u32.bits) = x / 256 := fun x => shr_u32 x 8 (by decide)
  refine And.intro (fun h => ?_) (fun h => ?_)
  · have hx : 65536 ≤ x := of_decide_eq_true h
    refine And.intro (by decide) ?_
    refine And.intro (fun h2 => ?_) (fun h2 => ?_)
    · have h3 : 256 ≤ x.fdiv (2 ^ min (Int.toNat 16) IntKind.u32.bits) := of_decide_eq_true h2
      refine And.intro (by decide) ?_
      have ey : IntKind.u8.wrap ((x.fdiv (2 ^ min (Int.toNat 16) IntKind.u32.bits)).fdiv (2 ^ min (Int.toNat 8) IntKind.u32.bits)) = x / 65536 / 256 := by rw [e8, e16]; exact u8_small (by omega) (by omega)
      obtain ⟨L, t1, t2, t3, t4, t5⟩ := len8_at (IntKind.u8.wrap ((x.fdiv (2 ^ min (Int.toNat 16) IntKind.u32.bits)).fdiv (2 ^ min (Int.toNat 8) IntKind.u32.bits))) (by rw [ey]; omega) (by rw [ey]; omega)
      have hj0 := j0 _ _ ey (by omega)
      refine ⟨UInt8.ofNat L, hj0, t1, ?_⟩
      rw [e16] at h3
      rw [ey] at t4 t5
      obtain ⟨g1, g2⟩ := len_fin (x := x) (y := x / 65536 / 256) (k := 24) (by rw [Int.ediv_ediv_of_nonneg (by decide)]; rfl) t4 t5 (by omega)
      refine ⟨24 + L, congrArg (SV.v (.i .i64)) (?_ : IntKind.i64.wrap (IntKind.i64.wrap (16 + 8) + IntKind.i64.wrap ((UInt8.ofNat L).toNat : Int)) = _), by omega, g1, g2⟩
      rw [t3, wrap64 (x := (16 + 8 : Int)) (by decide) (by decide), wrap64 (x := (L : Int)) (by omega) (by omega), wrap64 (by omega) (by omega)]
      omega
    · have h3 : ¬ 256 ≤ x.fdiv (2 ^ min (Int.toNat 16) IntKind.u32.bits) := of_decide_eq_false h2
      rw [e16] at h3
      have ey : IntKind.u8.wrap (x.fdiv (2 ^ min (Int.toNat 16) IntKind.u32.bits)) = x / 65536 := by rw [e16]; exact u8_small (by omega) (by omega)
      obtain ⟨L, t1, t2, t3, t4, t5⟩ := len8_at (IntKind.u8.wrap (x.fdiv (2 ^ min (Int.toNat 16) IntKind.u32.bits))) (by rw [ey]; omega) (by rw [ey]; omega)
      have hj0 := j0 _ _ ey (by omega)
      refine ⟨UInt8.ofNat L, hj0, t1, ?_⟩
      rw [ey] at t4 t5
      obtain ⟨g1, g2⟩ := len_fin (x := x) (y := x / 65536) (k := 16) rfl t4 t5 (by omega)
      refine ⟨16 + L, congrArg (SV.v (.i .i64)) (?_ : IntKind.i64.wrap (16 + IntKind.i64.wrap ((UInt8.ofNat L).toNat : Int)) = _), by omega, g1, g2⟩
      rw [t3, wrap64 (x := (L : Int)) (by omega) (by omega), wrap64 (by omega) (by omega)]
      omega
  · have hx : ¬ 65536 ≤ x := of_decide_eq_false h
    refine And.intro (fun h2 => ?_) (fun h2 => ?_)
    · have h3 : 256 ≤ x := of_decide_eq_true h2
      refine And.intro (by decide) ?_
      have ey : IntKind.u8.wrap (x.fdiv (2 ^ min (Int.toNat 8) IntKind.u32.bits)) = x / 256 := by rw [e8]; exact u8_small (by omega) (by omega)
      obtain ⟨L, t1, t2, t3, t4, t5⟩ := len8_at (IntKind.u8.wrap (x.fdiv (2 ^ min (Int.toNat 8) IntKind.u32.bits))) (by rw [ey]; omega) (by rw [ey]; omega)
      have hj0 := j0 _ _ ey (by omega)
      refine ⟨UInt8.ofNat L, hj0, t1, ?_⟩
      rw [ey] at t4 t5
      obtain ⟨g1, g2⟩ := len_fin (x := x) (y := x / 256) (k := 8) rfl t4 t5 (by omega)
      refine ⟨8 + L, congrArg (SV.v (.i .i64)) (?_ : IntKind.i64.wrap (IntKind.i64.wrap (0 + 8) + IntKind.i64.wrap ((UInt8.ofNat L).toNat : Int)) = _), by omega, g1, g2⟩
      rw [t3, wrap64 (x := (0 + 8 : Int)) (by decide) (by decide), wrap64 (x := (L : Int)) (by omega) (by omega), wrap64 (by omega) (by omega)]
      omega
    · have h3 : ¬ 256 ≤ x := of_decide_eq_false h2
      have ey : IntKind.u8.wrap x = x := u8_small (by omega) (by omega)
      obtain ⟨L, t1, t2, t3, t4, t5⟩ := len8_at (IntKind.u8.wrap x) (by rw [ey]; omega) (by rw [ey]; omega)
      have hj0 := j0 _ _ ey (by omega)
      refine ⟨UInt8.ofNat L, hj0, t1, ?_⟩
      rw [ey] at t4 t5
      refine ⟨L, congrArg (SV.v (.i .i64)) (?_ : IntKind.i64.wrap (0 + IntKind.i64.wrap ((UInt8.ofNat L).toNat : Int)) = _), by omega, t4, t5⟩
      rw [t3, wrap64 (x := (L : Int)) (by omega) (by omega), wrap64 (by omega) (by omega)]
      omega
set_option maxHeartbeats 4000000 in
theorem LeadingZeros32_t (x : Int) (h0 : 1 ≤ x) (h1 : x < 4294967296) : PureOK Tryz.prog hints 122 [.v (.i .u32) x] (fun V => ∃ s : Nat, V = .v (.i .i64) (s : Int) ∧ s ≤ 31 ∧ x * 2 ^ s < 4294967296 ∧ 2147483648 ≤ x * 2 ^ s) := by
  refine pure_rule (fn := Tryz.f122) (code := bodyOf Tryz.f122) tys_ok (by kernel_rfl) rfl Tryz.func122 (by kernel_rfl) (Nat.le_of_ble_eq_true (by kernel_rfl)) ?_
  refine (Len32_t x (by omega) h1).mono ?_
  rintro _ ⟨L, rfl, h2, h3, h4⟩
  obtain ⟨h5, h6⟩ := h4 h0
  refine ⟨32 - L, congrArg (SV.v (.i .i64)) (?_ : IntKind.i64.wrap (32 - (L : Int)) = _), by omega, ?_, ?_⟩
  · rw [wrap64 (by omega) (by omega)]; omega
  · have hp : (0 : Int) < 2 ^ (32 - L) := Int.pow_pos (by decide)
    have := Int.mul_lt_mul_of_pos_right h3 hp
    rw [← Int.pow_add, show L + (32 - L) = 32 by omega] at this
    exact this
  · have hp : (0 : Int) ≤ 2 ^ (32 - L) := Int.le_of_lt (Int.pow_pos (by decide))
    have := Int.mul_le_mul_of_nonneg_right h6 hp
    rw [← Int.pow_add, show L - 1 + (32 - L) = 31 by omega] at this
    exact this
end Go.Proofs.YtlnimeapichgmaaGreatDoor

/-
  strings.Index, Contains, Cut at a text of one byte.
-/
set_option linter.unusedSimpArgs false
set_option linter.unusedVariables false
namespace Go.Proofs.YtlnimeapichgmaaGreatDoor
open Go.Am Go.Tx Dv Go.Lib
set_option maxRecDepth 100000
theorem Index_t (s : List UInt8) (c : UInt8) : PureOK Tryz.prog hints 103 [.v .s s, .v .s [c]] (fun V => V = .v (.i .i64) (idxA s c 0)) := by
  refine ⟨fun qs hr => ?_⟩
  simp only [RL, RV, RR, List.cons.injEq, and_true] at hr
  obtain ⟨_, _, rfl, rfl, _, _, rfl, rfl, rfl⟩ := hr
  refine ⟨.int .i64 (idxA s c 0), _, ?_, ?_, rfl⟩
  · show (indexG [.str ⟨s.toArray⟩, .str ⟨[c].toArray⟩]).bind (fun v => exp expFuel [] v) = _
    rfl
  · simp only [RV, RR]
theorem sIndex_t (s : List UInt8) (c : UInt8) : PureOK Tryz.prog hints 93 [.v .s s, .v .s [c]] (fun V => V = .v (.i .i64) (idxA s c 0)) := by
  refine pure_rule (fn := Tryz.f93) (code := bodyOf Tryz.f93) tys_ok (by kernel_rfl) rfl Tryz.func93 (by kernel_rfl) (Nat.le_of_ble_eq_true (by kernel_rfl)) ?_
  refine (Index_t s c).mono ?_
  rintro _ rfl
  rfl
theorem Contains_t (s : List UInt8) (c : UInt8) : PureOK Tryz.prog hints 67 [.v .s s, .v .s [c]] (fun V => V = .v .b (decide (0 ≤ idxA s c 0))) := by
  refine pure_rule (fn := Tryz.f67) (code := bodyOf Tryz.f67) tys_ok (by kernel_rfl) rfl Tryz.func67 (by kernel_rfl) (Nat.le_of_ble_eq_true (by kernel_rfl)) ?_
  refine (sIndex_t s c).mono ?_
  rintro _ rfl
  rfl
theorem idx_lt (s : List UInt8) (c : UInt8) : -1 ≤ idxA s c 0 ∧ idxA s c 0 < s.length := by
  have h : ∀ (l : List UInt8) (i : Nat), -1 ≤ idxA l c i ∧ idxA l c i < i + l.length ∨ idxA l c i = -1 := by
    intro l
    induction l with
    | nil => intro i; right; rfl
    | cons b l ih =>
      intro i
      rw [idxA]
      cases Nat.beq b.toNat c.toNat with
      | true => left; simp only [List.length_cons]; omega
      | false =>
        simp only
        rcases ih (i + 1) with h | h
        · left; simp only [List.length_cons]; omega
        · right; exact h
  rcases h s 0 with h | h <;> omega
theorem lCut_t (s : List UInt8) (c : UInt8) (hl : s.length ≤ 9223372036854775806) : PureOK Tryz.prog hints 79 [.v .s s, .v .s [c]] (fun V => V = .tup [.v .s (cutS s c).1, .v .s (cutS s c).2.1, .v .b (cutS s c).2.2]) := by
  refine pure_rule (fn := Tryz.f79) (code := bodyOf Tryz.f79) tys_ok (by kernel_rfl) rfl Tryz.func79 (by kernel_rfl) (Nat.le_of_ble_eq_true (by kernel_rfl)) ?_
  have hi := idx_lt s c
  refine (Index_t s c).mono ?_
  rintro _ rfl
  obtain ⟨k, hk⟩ : ∃ k, idxA s c 0 = k := ⟨_, rfl⟩
  have hcut : cutS s c = match decide (0 ≤ k) with | true => (s.take k.toNat, s.drop (k.toNat + 1), true) | false => (s, [], false) := by rw [← hk]; rfl
  rw [hk] at hi ⊢
  refine And.intro (fun h => ?_) (fun h => ?_)
  · have h' : decide (0 ≤ k) = true := h
    have h0 : 0 ≤ k := of_decide_eq_true h'
    have e1 : IntKind.i64.wrap (k + 1) = k + 1 := wrap64 (by omega) (by omega)
    refine And.intro (show 0 ≤ k ∧ k ≤ (s.length : Int) from ⟨h0, by omega⟩) ?_
    refine And.intro (by show 0 ≤ IntKind.i64.wrap (k + 1) ∧ IntKind.i64.wrap (k + 1) ≤ (s.length : Int); rw [e1]; omega) ?_
    have e2 : List.drop (IntKind.i64.wrap (k + 1)).toNat (List.take s.length s) = s.drop (k.toNat + 1) := by
      rw [e1, List.take_length, show (k + 1).toNat = k.toNat + 1 by omega]
    show SV.tup [.v .s (List.drop 0 (List.take k.toNat s)), .v .s (List.drop (IntKind.i64.wrap (k + 1)).toNat (List.take s.length s)), .v .b true] = _
    rw [e2, hcut, h']
    rfl
  · have h' : decide (0 ≤ k) = false := h
    rw [hcut, h']
    rfl
theorem Cut_t (s : List UInt8) (c : UInt8) (hl : s.length ≤ 9223372036854775806) : PureOK Tryz.prog hints 43 [.v .s s, .v .s [c]] (fun V => V = .tup [.v .s (cutS s c).1, .v .s (cutS s c).2.1, .v .b (cutS s c).2.2]) := by
  refine pure_rule (fn := Tryz.f43) (code := bodyOf Tryz.f43) tys_ok (by kernel_rfl) rfl Tryz.func43 (by kernel_rfl) (Nat.le_of_ble_eq_true (by kernel_rfl)) ?_
  refine (lCut_t s c hl).mono ?_
  rintro _ rfl
  rfl
end Go.Proofs.YtlnimeapichgmaaGreatDoor

/-
  Long division by words: the plain law of one digit of the quotient.
-/
namespace Dv
section
variable {P U V U' V' v1 v2 u2 top q g rest : Int}
/-- The first guess is not too small. -/
theorem guess_ge (hP : 0 < P) (hV : V = (v1 * 4294967296 + v2) * P + V') (hV0 : 0 ≤ V') (h2 : 0 ≤ v2) (hU : U = (top * 4294967296 + u2) * P + U') (hU1 : U' < P) (hu : u2 < 4294967296) (hv : 0 < v1) (hq0 : 0 ≤ q) (hq : q * V ≤ U) : q ≤ top / v1 := by
  have e1 : q * V = q * v1 * (4294967296 * P) + (q * v2 * P + q * V') := by rw [hV]; grind
  have p1 : 0 ≤ q * v2 * P := Int.mul_nonneg (Int.mul_nonneg hq0 h2) (by omega)
  have p2 : 0 ≤ q * V' := Int.mul_nonneg hq0 hV0
  have p3 : u2 * P ≤ 4294967295 * P := Int.mul_le_mul_of_nonneg_right (by omega) (by omega)
  have e2 : U = top * (4294967296 * P) + u2 * P + U' := by rw [hU]; grind
  have h1 : q * v1 * (4294967296 * P) < (top + 1) * (4294967296 * P) := by
    have e3 : (top + 1) * (4294967296 * P) = top * (4294967296 * P) + 4294967296 * P := by grind
    omega
  have h3 := Int.lt_of_mul_lt_mul_right h1 (by omega)
  rw [Int.le_ediv_iff_mul_le hv]
  omega
/-- A guess that the test finds too great is too great. -/
theorem guess_step (hP : 0 < P) (hV : V = (v1 * 4294967296 + v2) * P + V') (hV0 : 0 ≤ V') (hV1 : 0 < V) (hU : U = (top * 4294967296 + u2) * P + U') (hU1 : U' < P) (hg : 0 ≤ g) (hr : g * v1 + rest = top) (hc : rest * 4294967296 + u2 < g * v2) (hq : q * V ≤ U) : q < g := by
  have h1 : top * 4294967296 + u2 + 1 ≤ g * (v1 * 4294967296 + v2) := by
    have : g * (v1 * 4294967296 + v2) = g * v1 * 4294967296 + g * v2 := by grind
    omega
  have h2 := Int.mul_le_mul_of_nonneg_right h1 (Int.le_of_lt hP)
  have e1 : g * V = g * (v1 * 4294967296 + v2) * P + g * V' := by rw [hV]; grind
  have p1 : 0 ≤ g * V' := Int.mul_nonneg hg hV0
  have e2 : (top * 4294967296 + u2 + 1) * P = (top * 4294967296 + u2) * P + P := by grind
  have h3 : q * V < g * V := by omega
  exact Int.lt_of_mul_lt_mul_right h3 (by omega)
/-- A guess that the test lets by is too great by one at most. -/
theorem guess_le (hP : 0 < P) (hV : V = (v1 * 4294967296 + v2) * P + V') (hV0 : 0 ≤ V') (hV1 : V' < P) (h2 : 0 ≤ v2) (hv : 0 < v1) (hU : U = (top * 4294967296 + u2) * P + U') (hU0 : 0 ≤ U') (hg0 : 0 ≤ g) (hg1 : g < 4294967296) (hc : g * (v1 * 4294967296 + v2) ≤ top * 4294967296 + u2) : g * V - V ≤ U := by
  have h3 := Int.mul_le_mul_of_nonneg_right hc (Int.le_of_lt hP)
  have e1 : g * V = g * (v1 * 4294967296 + v2) * P + g * V' := by rw [hV]; grind
  have p1 : g * V' ≤ g * P := Int.mul_le_mul_of_nonneg_left (by omega) hg0
  have p2 : g * P ≤ 4294967296 * P := Int.mul_le_mul_of_nonneg_right (by omega) (by omega)
  have p3 : (1 : Int) * (4294967296 * P) ≤ v1 * (4294967296 * P) := Int.mul_le_mul_of_nonneg_right (by omega) (by omega)
  have e2 : V = v1 * (4294967296 * P) + v2 * P + V' := by rw [hV]; grind
  have p4 : 0 ≤ v2 * P := Int.mul_nonneg h2 (by omega)
  omega
/-- The test's right side, put otherwise. -/
theorem guess_test (hr : g * v1 + rest = top) (hc : g * v2 ≤ rest * 4294967296 + u2) : g * (v1 * 4294967296 + v2) ≤ top * 4294967296 + u2 := by
  have : g * (v1 * 4294967296 + v2) = g * v1 * 4294967296 + g * v2 := by grind
  omega
theorem guess_break (hr : g * v1 + rest = top) (hrest : 4294967296 ≤ rest) (hg0 : 0 ≤ g) (hg1 : g < 4294967296) (h2 : 0 ≤ v2) (h3 : v2 < 4294967296) (hu : 0 ≤ u2) : g * (v1 * 4294967296 + v2) ≤ top * 4294967296 + u2 := by
  have e1 : g * (v1 * 4294967296 + v2) = g * v1 * 4294967296 + g * v2 := by grind
  have p1 : g * v2 ≤ 4294967296 * v2 := Int.mul_le_mul_of_nonneg_right (by omega) h2
  omega
end
end Dv
