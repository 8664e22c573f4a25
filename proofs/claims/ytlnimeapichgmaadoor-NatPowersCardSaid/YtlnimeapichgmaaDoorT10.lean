/-
  math/bits.LeadingZeros32.
-/
import Derived.Test.YtlnimeapichgmaaDoorT7
set_option linter.constructorNameAsVariable false
set_option linter.unusedSimpArgs false
set_option linter.unusedVariables false
namespace Go.Proofs.YtlnimeapichgmaaDoor
open Go.Am Go.Tx Dv
set_option maxRecDepth 100000
def len8 : List UInt8 := [0, 1] ++ List.replicate 2 2 ++ List.replicate 4 3 ++ List.replicate 8 4 ++ List.replicate 16 5 ++ List.replicate 32 6 ++ List.replicate 64 7 ++ List.replicate 128 8
theorem len8_fin : ∀ j : Fin 256, ∃ L : Fin 9, len8[j.val]? = some (UInt8.ofNat L.val) ∧ j.val < 2 ^ L.val ∧ (1 ≤ j.val → 1 ≤ L.val ∧ 2 ^ (L.val - 1) ≤ j.val) := by decide +kernel
theorem len8_at (j : Int) (h0 : 0 ≤ j) (h1 : j < 256) : ∃ L : Nat, len8[j.toNat]? = some (UInt8.ofNat L) ∧ L ≤ 8 ∧ (UInt8.ofNat L).toNat = L ∧ j < 2 ^ L ∧ (1 ≤ j → 1 ≤ L ∧ 2 ^ (L - 1) ≤ j) := by
  obtain ⟨⟨L, hL⟩, h2, h3, h4⟩ := len8_fin ⟨j.toNat, by omega⟩
  simp only at h2 h3 h4
  refine ⟨L, h2, by omega, by rw [UInt8.toNat_ofNat']; omega, ?_, fun h => ?_⟩
  · have : ((j.toNat : Nat) : Int) < ((2 ^ L : Nat) : Int) := Int.ofNat_lt.2 h3
    rw [Int.natCast_pow] at this
    have e : ((2 : Nat) : Int) = 2 := rfl
    rw [e] at this
    omega
  · obtain ⟨h5, h6⟩ := h4 (by omega)
    have : ((2 ^ (L - 1) : Nat) : Int) ≤ ((j.toNat : Nat) : Int) := Int.ofNat_le.2 h6
    rw [Int.natCast_pow] at this
    have e : ((2 : Nat) : Int) = 2 := rfl
    rw [e] at this
    exact ⟨h5, by omega⟩
theorem u8_small {x : Int} (h0 : 0 ≤ x) (h1 : x < 256) : IntKind.u8.wrap x = x := by
  unfold IntKind.wrap IntKind.signed IntKind.bits
  simp only [Bool.false_and, Bool.false_eq_true, if_false]
  omega
theorem shr_u32 (x : Int) (k : Nat) (hk : k ≤ 32) : x.fdiv (2 ^ min k IntKind.u32.bits) = x / 2 ^ k := by
  have : min k IntKind.u32.bits = k := by show min k 32 = k; omega
  rw [this, Int.fdiv_eq_ediv_of_nonneg _ (Int.le_of_lt (Int.pow_pos (by decide)))]
/-- What the table's entry comes to. -/
theorem len_fin {x y : Int} {k L : Nat} (hy : y = x / 2 ^ k) (h2 : y < 2 ^ L) (h3 : 1 ≤ y → 1 ≤ L ∧ 2 ^ (L - 1) ≤ y) (hx : 1 ≤ x → 1 ≤ y) : x < 2 ^ (k + L) ∧ (1 ≤ x → 1 ≤ k + L ∧ 2 ^ (k + L - 1) ≤ x) := by
  have hp : (0 : Int) < 2 ^ k := Int.pow_pos (by decide)
  constructor
  · rw [Int.pow_add, Int.mul_comm]
    exact Int.lt_mul_of_ediv_lt hp (hy ▸ h2)
  · intro h
    obtain ⟨h4, h5⟩ := h3 (hx h)
    refine ⟨by omega, ?_⟩
    rw [show k + L - 1 = k + (L - 1) by omega, Int.pow_add, Int.mul_comm]
    exact (Int.le_ediv_iff_mul_le hp).1 (hy ▸ h5)
theorem j0 (a b : Int) (e : a = b) (h : 0 ≤ b) : 0 ≤ a := by omega
set_option maxHeartbeats 4000000 in
theorem Len32_t (x : Int) (h0 : 0 ≤ x) (h1 : x < 4294967296) : PureOK Tryd.prog hints 73 [.v (.i .u32) x] (fun V => ∃ L : Nat, V = .v (.i .i64) (L : Int) ∧ L ≤ 32 ∧ x < 2 ^ L ∧ (1 ≤ x → 1 ≤ L ∧ 2 ^ (L - 1) ≤ x)) := by
  refine pure_rule (fn := Tryd.f73) (code := bodyOf Tryd.f73) tys_ok (by kernel_rfl) rfl Tryd.func73 (by kernel_rfl) (Nat.le_of_ble_eq_true (by kernel_rfl)) ?_
  have e16 : x.fdiv (2 ^ min (Int.toNat 16) IntKind.u32.bits) = x / 65536 := shr_u32 x 16 (by decide)
  have e8 : ∀ x : Int, x.fdiv (2 ^ min (Int.toNat 8) IntKind.u32.bits) = x / 256 := fun x => shr_u32 x 8 (by decide)
  refine And.intro (fun h => ?_) (fun h => ?_)
  · have hx : 65536 ≤ x := of_decide_eq_true h
    refine And.intro (by decide) ?_
    refine And.intro (fun h2 => ?_) (fun h2 => ?_)
    · have h3 : 256 ≤ x.fdiv (2 ^ min (Int.toNat 16) IntKind.u32.bits) := of_decide_eq_true h2
      refine And.intro (by decide) ?_
      have ey : IntKind.u8.wrap ((x.fdiv (2 ^ min (Int.toNat 16) IntKind.u32.bits)).fdiv (2 ^ min (Int.toNat 8) IntKind.u32.bits)) = x / 65536 / 256 := by rw [e8, e16]; exact u8_small (by omega) (by omega)
      obtain ⟨L, t1, t2, t3, t4, t5⟩ := len8_at (IntKind.u8.wrap ((x.fdiv (2 ^ min (Int.toNat 16) IntKind.u32.bits)).fdiv (2 ^ min (Int.toNat 8) IntKind.u32.bits))) (by rw [ey]; omega) (by rw [ey]; omega)
      have hj0 := j0 _ _ ey (by omega)
      refine ⟨UInt8.ofNat L, hj0, t1, ?_⟩
      rw [e16] at h3
      rw [ey] at t4 t5
      obtain ⟨g1, g2⟩ := len_fin (x := x) (y := x / 65536 / 256) (k := 24) (by rw [Int.ediv_ediv_of_nonneg (by decide)]; rfl) t4 t5 (by omega)
      refine ⟨24 + L, congrArg (SV.v (.i .i64)) (?_ : IntKind.i64.wrap (IntKind.i64.wrap (16 + 8) + IntKind.i64.wrap ((UInt8.ofNat L).toNat : Int)) = _), by omega, g1, g2⟩
      rw [t3, wrap64 (x := (16 + 8 : Int)) (by decide) (by decide), wrap64 (x := (L : Int)) (by omega) (by omega), wrap64 (by omega) (by omega)]
      omega
    · have h3 : ¬ 256 ≤ x.fdiv (2 ^ min (Int.toNat 16) IntKind.u32.bits) := of_decide_eq_false h2
      rw [e16] at h3
      have ey : IntKind.u8.wrap (x.fdiv (2 ^ min (Int.toNat 16) IntKind.u32.bits)) = x / 65536 := by rw [e16]; exact u8_small (by omega) (by omega)
      obtain ⟨L, t1, t2, t3, t4, t5⟩ := len8_at (IntKind.u8.wrap (x.fdiv (2 ^ min (Int.toNat 16) IntKind.u32.bits))) (by rw [ey]; omega) (by rw [ey]; omega)
      have hj0 := j0 _ _ ey (by omega)
      refine ⟨UInt8.ofNat L, hj0, t1, ?_⟩
      rw [ey] at t4 t5
      obtain ⟨g1, g2⟩ := len_fin (x := x) (y := x / 65536) (k := 16) rfl t4 t5 (by omega)
      refine ⟨16 + L, congrArg (SV.v (.i .i64)) (?_ : IntKind.i64.wrap (16 + IntKind.i64.wrap ((UInt8.ofNat L).toNat : Int)) = _), by omega, g1, g2⟩
      rw [t3, wrap64 (x := (L : Int)) (by omega) (by omega), wrap64 (by omega) (by omega)]
      omega
  · have hx : ¬ 65536 ≤ x := of_decide_eq_false h
    refine And.intro (fun h2 => ?_) (fun h2 => ?_)
    · have h3 : 256 ≤ x := of_decide_eq_true h2
      refine And.intro (by decide) ?_
      have ey : IntKind.u8.wrap (x.fdiv (2 ^ min (Int.toNat 8) IntKind.u32.bits)) = x / 256 := by rw [e8]; exact u8_small (by omega) (by omega)
      obtain ⟨L, t1, t2, t3, t4, t5⟩ := len8_at (IntKind.u8.wrap (x.fdiv (2 ^ min (Int.toNat 8) IntKind.u32.bits))) (by rw [ey]; omega) (by rw [ey]; omega)
      have hj0 := j0 _ _ ey (by omega)
      refine ⟨UInt8.ofNat L, hj0, t1, ?_⟩
      rw [ey] at t4 t5
      obtain ⟨g1, g2⟩ := len_fin (x := x) (y := x / 256) (k := 8) rfl t4 t5 (by omega)
      refine ⟨8 + L, congrArg (SV.v (.i .i64)) (?_ : IntKind.i64.wrap (IntKind.i64.wrap (0 + 8) + IntKind.i64.wrap ((UInt8.ofNat L).toNat : Int)) = _), by omega, g1, g2⟩
      rw [t3, wrap64 (x := (0 + 8 : Int)) (by decide) (by decide), wrap64 (x := (L : Int)) (by omega) (by omega), wrap64 (by omega) (by omega)]
      omega
    · have h3 : ¬ 256 ≤ x := of_decide_eq_false h2
      have ey : IntKind.u8.wrap x = x := u8_small (by omega) (by omega)
      obtain ⟨L, t1, t2, t3, t4, t5⟩ := len8_at (IntKind.u8.wrap x) (by rw [ey]; omega) (by rw [ey]; omega)
      have hj0 := j0 _ _ ey (by omega)
      refine ⟨UInt8.ofNat L, hj0, t1, ?_⟩
      rw [ey] at t4 t5
      refine ⟨L, congrArg (SV.v (.i .i64)) (?_ : IntKind.i64.wrap (0 + IntKind.i64.wrap ((UInt8.ofNat L).toNat : Int)) = _), by omega, t4, t5⟩
      rw [t3, wrap64 (x := (L : Int)) (by omega) (by omega), wrap64 (by omega) (by omega)]
      omega
set_option maxHeartbeats 4000000 in
theorem LeadingZeros32_t (x : Int) (h0 : 1 ≤ x) (h1 : x < 4294967296) : PureOK Tryd.prog hints 65 [.v (.i .u32) x] (fun V => ∃ s : Nat, V = .v (.i .i64) (s : Int) ∧ s ≤ 31 ∧ x * 2 ^ s < 4294967296 ∧ 2147483648 ≤ x * 2 ^ s) := by
  refine pure_rule (fn := Tryd.f65) (code := bodyOf Tryd.f65) tys_ok (by kernel_rfl) rfl Tryd.func65 (by kernel_rfl) (Nat.le_of_ble_eq_true (by kernel_rfl)) ?_
  refine (Len32_t x (by omega) h1).mono ?_
  rintro _ ⟨L, rfl, h2, h3, h4⟩
  obtain ⟨h5, h6⟩ := h4 h0
  refine ⟨32 - L, congrArg (SV.v (.i .i64)) (?_ : IntKind.i64.wrap (32 - (L : Int)) = _), by omega, ?_, ?_⟩
  · rw [wrap64 (by omega) (by omega)]; omega
  · have hp : (0 : Int) < 2 ^ (32 - L) := Int.pow_pos (by decide)
    have := Int.mul_lt_mul_of_pos_right h3 hp
    rw [← Int.pow_add, show L + (32 - L) = 32 by omega] at this
    exact this
  · have hp : (0 : Int) ≤ 2 ^ (32 - L) := Int.le_of_lt (Int.pow_pos (by decide))
    have := Int.mul_le_mul_of_nonneg_right h6 hp
    rw [← Int.pow_add, show L - 1 + (32 - L) = 31 by omega] at this
    exact this
end Go.Proofs.YtlnimeapichgmaaDoor
