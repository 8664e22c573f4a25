/-
  math/bits.LeadingZeros32.
-/
import Derived.Test.YtnfgnkbgajhhbaaGreatDoorT7
import Derived.Test.YtnfgnkbgajhhbaaGreatDoorT15
import Derived.Test.YtnfgnkbgajhhbaaGreatDoorT5
set_option linter.constructorNameAsVariable false
set_option linter.unusedSimpArgs false
set_option linter.unusedVariables false
namespace Go.Proofs.YtnfgnkbgajhhbaaGreatDoor
open Go.Am Go.Tx Dv
set_option maxRecDepth 100000
def len8 : List UInt8 := [0, 1] ++ List.replicate 2 2 ++ List.replicate 4 3 ++ List.replicate 8 4 ++ List.replicate 16 5 ++ List.replicate 32 6 ++ List.replicate 64 7 ++ List.replicate 128 8
theorem len8_fin : ∀ j : Fin 256, ∃ L : Fin 9, len8[j.val]? = some (UInt8.ofNat L.val) ∧ j.val < 2 ^ L.val ∧ (1 ≤ j.val → 1 ≤ L.val ∧ 2 ^ (L.val - 1) ≤ j.val) := by decide +kernel
theorem len8_at (j : Int) (h0 : 0 ≤ j) (h1 : j < 256) : ∃ L : Nat, len8[j.toNat]? = some (UInt8.ofNat L) ∧ L ≤ 8 ∧ (UInt8.ofNat L).toNat = L ∧ j < 2 ^ L ∧ (1 ≤ j → 1 ≤ L ∧ 2 ^ (L - 1) ≤ j) := by
  obtain ⟨⟨L, hL⟩, h2, h3, h4⟩ := len8_fin ⟨j.toNat, by omega⟩
  simp only at h2 h3 h4
  refine ⟨L, h2, by omega, by rw [UInt8.toNat_ofNat']; omega, ?_, fun h => ?_⟩
  · have : ((j.toNat : Nat) : Int) < ((2 ^ L : Nat) : Int) := Int.ofNat_lt.2 h3
    rw [Int.natCast_pow] at this
    have e : ((2 : Nat) : Int) = 2 := rfl
    rw [e] at this
    omega
  · obtain ⟨h5, h6⟩ := h4 (by omega)
    have : ((2 ^ (L - 1) : Nat) : Int) ≤ ((j.toNat : Nat) : Int) := Int.ofNat_le.2 h6
    rw [Int.natCast_pow] at this
    have e : ((2 : Nat) : Int) = 2 := rfl
    rw [e] at this
    exact ⟨h5, by omega⟩
theorem u8_small {x : Int} (h0 : 0 ≤ x) (h1 : x < 256) : IntKind.u8.wrap x = x := by
  unfold IntKind.wrap IntKind.signed IntKind.bits
  simp only [Bool.false_and, Bool.false_eq_true, if_false]
  omega
theorem shr_u32 (x : Int) (k : Nat) (hk : k ≤ 32) : x.fdiv (2 ^ min k IntKind.u32.bits) = x / 2 ^ k := by
  have : min k IntKind.u32.bits = k := by show min k 32 = k; omega
  rw [this, Int.fdiv_eq_ediv_of_nonneg _ (Int.le_of_lt (Int.pow_pos (by decide)))]
theorem len_fin {x y : Int} {k L : Nat} (hy : y = x / 2 ^ k) (h2 : y < 2 ^ L) (h3 : 1 ≤ y → 1 ≤ L ∧ 2 ^ (L - 1) ≤ y) (hx : 1 ≤ x → 1 ≤ y) : x < 2 ^ (k + L) ∧ (1 ≤ x → 1 ≤ k + L ∧ 2 ^ (k + L - 1) ≤ x) := by
  have hp : (0 : Int) < 2 ^ k := Int.pow_pos (by decide)
  constructor
  · rw [Int.pow_add, Int.mul_comm]
    exact Int.lt_mul_of_ediv_lt hp (hy ▸ h2)
  · intro h
    obtain ⟨h4, h5⟩ := h3 (hx h)
    refine ⟨by omega, ?_⟩
    rw [show k + L - 1 = k + (L - 1) by omega, Int.pow_add, Int.mul_comm]
    exact (Int.le_ediv_iff_mul_le hp).1 (hy ▸ h5)
theorem j0 (a b : Int) (e : a = b) (h : 0 ≤ b) : 0 ≤ a := by omega
set_option maxHeartbeats 4000000 in
theorem Len32_t (x : Int) (h0 : 0 ≤ x) (h1 : x < 4294967296) : PureOK Tryz.prog hints 171 [.v (.i .u32) x] (fun V => ∃ L : Nat, V = .v (.i .i64) (L : Int) ∧ L ≤ 32 ∧ x < 2 ^ L ∧ (1 ≤ x → 1 ≤ L ∧ 2 ^ (L - 1) ≤ x)) := by
  refine pure_rule (fn := Tryz.f171) (code := bodyOf Tryz.f171) tys_ok (by kernel_rfl) rfl Tryz.func171 (by kernel_rfl) (Nat.le_of_ble_eq_true (by kernel_rfl)) ?_
  have e16 : x.fdiv (2 ^ min (Int.toNat 16) IntKind.u32.bits) = x / 65536 := shr_u32 x 16 (by decide)
  have e8 : ∀ x : Int, x.fdiv (2 ^ min (Int.toNat 8) IntKind.u32.bits) = x / 256 := fun x => shr_u32 x 8 (by decide)
  refine And.intro (fun h => ?_) (fun h => ?_)
  · have hx : 65536 ≤ x := of_decide_eq_true h
    refine And.intro (by decide) ?_
    refine And.intro (fun h2 => ?_) (fun h2 => ?_)
    · have h3 : 256 ≤ x.fdiv (2 ^ min (Int.toNat 16) IntKind.u32.bits) := of_decide_eq_true h2
      refine And.intro (by decide) ?_
      have ey : IntKind.u8.wrap ((x.fdiv (2 ^ min (Int.toNat 16) IntKind.u32.bits)).fdiv (2 ^ min (Int.toNat 8) IntKind.u32.bits)) = x / 65536 / 256 := by rw [e8, e16]; exact u8_small (by omega) (by omega)
      obtain ⟨L, t1, t2, t3, t4, t5⟩ := len8_at (IntKind.u8.wrap ((x.fdiv (2 ^ min (Int.toNat 16) IntKind.u32.bits)).fdiv (2 ^ min (Int.toNat 8) IntKind.u32.bits))) (by rw [ey]; omega) (by rw [ey]; omega)
      have hj0 := j0 _ _ ey (by omega)
      refine ⟨UInt8.ofNat L, hj0, t1, ?_⟩
      rw [e16] at h3
      rw [ey] at t4 t5
      obtain ⟨g1, g2⟩ := len_fin (x := x) (y := x / 65536 / 256) (k := 24) (by rw [Int.ediv_ediv_of_nonneg (by decide)]; rfl) t4 t5 (by omega)
      refine ⟨24 + L, congrArg (SV.v (.i .i64)) (?_ : IntKind.i64.wrap (IntKind.i64.wrap (16 + 8) + IntKind.i64.wrap ((UInt8.ofNat L).toNat : Int)) = _), by omega, g1, g2⟩
      rw [t3, wrap64 (x := (16 + 8 : Int)) (by decide) (by decide), wrap64 (x := (L : Int)) (by omega) (by omega), wrap64 (by omega) (by omega)]
      omega
    · have h3 : ¬ 256 ≤ x.fdiv (2 ^ min (Int.toNat 16) IntKind.u32.bits) := of_decide_eq_false h2
      rw [e16] at h3
      have ey : IntKind.u8.wrap (x.fdiv (2 ^ min (Int.toNat 16) IntKind.u32.bits)) = x / 65536 := by rw [e16]; exact u8_small (by omega) (by omega)
      obtain ⟨L, t1, t2, t3, t4, t5⟩ := len8_at (IntKind.u8.wrap (x.fdiv (2 ^ min (Int.toNat 16) IntKind.u32.bits))) (by rw [ey]; omega) (by rw [ey]; omega)
      have hj0 := j0 _ _ ey (by omega)
      refine ⟨UInt8.ofNat L, hj0, t1, ?_⟩
      rw [ey] at t4 t5
      obtain ⟨g1, g2⟩ := len_fin (x := x) (y := x / 65536) (k := 16) rfl t4 t5 (by omega)
      refine ⟨16 + L, congrArg (SV.v (.i .i64)) (?_ : IntKind.i64.wrap (16 + IntKind.i64.wrap ((UInt8.ofNat L).toNat : Int)) = _), by omega, g1, g2⟩
      rw [t3, wrap64 (x := (L : Int)) (by omega) (by omega), wrap64 (by omega) (by omega)]
      omega
  · have hx : ¬ 65536 ≤ x := of_decide_eq_false h
    refine And.intro (fun h2 => ?_) (fun h2 => ?_)
    · have h3 : 256 ≤ x := of_decide_eq_true h2
      refine And.intro (by decide) ?_
      have ey : IntKind.u8.wrap (x.fdiv (2 ^ min (Int.toNat 8) IntKind.u32.bits)) = x / 256 := by rw [e8]; exact u8_small (by omega) (by omega)
      obtain ⟨L, t1, t2, t3, t4, t5⟩ := len8_at (IntKind.u8.wrap (x.fdiv (2 ^ min (Int.toNat 8) IntKind.u32.bits))) (by rw [ey]; omega) (by rw [ey]; omega)
      have hj0 := j0 _ _ ey (by omega)
      refine ⟨UInt8.ofNat L, hj0, t1, ?_⟩
      rw [ey] at t4 t5
      obtain ⟨g1, g2⟩ := len_fin (x := x) (y := x / 256) (k := 8) rfl t4 t5 (by omega)
      refine ⟨8 + L, congrArg (SV.v (.i .i64)) (?_ : IntKind.i64.wrap (IntKind.i64.wrap (0 + 8) + IntKind.i64.wrap ((UInt8.ofNat L).toNat : Int)) = _), by omega, g1, g2⟩
      rw [t3, wrap64 (x := (0 + 8 : Int)) (by decide) (by decide), wrap64 (x := (L : Int)) (by omega) (by omega), wrap64 (by omega) (by omega)]
      omega
    · have h3 : ¬ 256 ≤ x := of_decide_eq_false h2
      have ey : IntKind.u8.wrap x = x := u8_small (by omega) (by omega)
      obtain ⟨L, t1, t2, t3, t4, t5⟩ := len8_at (IntKind.u8.wrap x) (by rw [ey]; omega) (by rw [ey]; omega)
      have hj0 := j0 _ _ ey (by omega)
      refine ⟨UInt8.ofNat L, hj0, t1, ?_⟩
      rw [ey] at t4 t5
      refine ⟨L, congrArg (SV.v (.i .i64)) (?_ : IntKind.i64.wrap (0 + IntKind.i64.wrap ((UInt8.ofNat L).toNat : Int)) = _), by omega, t4, t5⟩
      rw [t3, wrap64 (x := (L : Int)) (by omega) (by omega), wrap64 (by omega) (by omega)]
      omega
set_option maxHeartbeats 4000000 in
theorem LeadingZeros32_t (x : Int) (h0 : 1 ≤ x) (h1 : x < 4294967296) : PureOK Tryz.prog hints 154 [.v (.i .u32) x] (fun V => ∃ s : Nat, V = .v (.i .i64) (s : Int) ∧ s ≤ 31 ∧ x * 2 ^ s < 4294967296 ∧ 2147483648 ≤ x * 2 ^ s) := by
  refine pure_rule (fn := Tryz.f154) (code := bodyOf Tryz.f154) tys_ok (by kernel_rfl) rfl Tryz.func154 (by kernel_rfl) (Nat.le_of_ble_eq_true (by kernel_rfl)) ?_
  refine (Len32_t x (by omega) h1).mono ?_
  rintro _ ⟨L, rfl, h2, h3, h4⟩
  obtain ⟨h5, h6⟩ := h4 h0
  refine ⟨32 - L, congrArg (SV.v (.i .i64)) (?_ : IntKind.i64.wrap (32 - (L : Int)) = _), by omega, ?_, ?_⟩
  · rw [wrap64 (by omega) (by omega)]; omega
  · have hp : (0 : Int) < 2 ^ (32 - L) := Int.pow_pos (by decide)
    have := Int.mul_lt_mul_of_pos_right h3 hp
    rw [← Int.pow_add, show L + (32 - L) = 32 by omega] at this
    exact this
  · have hp : (0 : Int) ≤ 2 ^ (32 - L) := Int.le_of_lt (Int.pow_pos (by decide))
    have := Int.mul_le_mul_of_nonneg_right h6 hp
    rw [← Int.pow_add, show L - 1 + (32 - L) = 31 by omega] at this
    exact this
end Go.Proofs.YtnfgnkbgajhhbaaGreatDoor
/-
  large.divWords: quotient and remainder.
-/
set_option linter.unusedSimpArgs false
set_option linter.unusedVariables false
namespace Go.Proofs.YtnfgnkbgajhhbaaGreatDoor
open Go.Am Go.Tx Dv
set_option maxRecDepth 100000
set_option maxHeartbeats 16000000 in
theorem divWords_t (A B : Nat) (hB : 0 < B) (hla : (wOf A).length ≤ 800000) (hlb : (wOf B).length ≤ 800000) : PureOK Tryz.prog hints 143 [u32s (wOf A), u32s (wOf B)] (fun V => ∃ q r, V = .tup [u32s q, u32s r] ∧ Wd q ∧ Wd r ∧ q.length ≤ 800001 ∧ r.length ≤ 800001 ∧ wv q = (A / B : Nat) ∧ wv r = (A % B : Nat)) := by
  obtain ⟨a, ha⟩ : ∃ a, wOf A = a := ⟨_, rfl⟩
  obtain ⟨b, hb⟩ : ∃ b, wOf B = b := ⟨_, rfl⟩
  have hcmp := cmp_wOf A B (by omega) (by omega)
  have hlen : (wOf A).length < (wOf B).length → A < B := fun h => by
    rcases Nat.lt_or_ge A B with h' | h'
    · exact h'
    · have := wOf_len_mono h'; omega
  have hwa : Wd a := ha ▸ wd_wOf _
  have hwb : Wd b := hb ▸ wd_wOf _
  have hva : wv a = A := by rw [← ha]; exact wv_wOf _
  have hvb : wv b = B := by rw [← hb]; exact wv_wOf _
  have hnz : b ≠ [] := by
    rintro rfl
    have := wOf_nil.1 hb
    omega
  have hn1 : 1 ≤ b.length := by
    cases b with
    | nil => exact absurd rfl hnz
    | cons x l => simp
  have hNb : Nz b := hb ▸ nz_wOf _
  rw [ha] at hcmp hlen hla ⊢
  rw [hb] at hcmp hlen hlb ⊢
  refine PureOK.as (Q := fun V => (∃ q r, V = .tup [u32s q, u32s r] ∧ Wd q ∧ Wd r ∧ q.length ≤ 800001 ∧ r.length ≤ 800001 ∧ wv q = (A / B : Nat) ∧ wv r = (A % B : Nat)) ∨ (V = .tup [.nils, u32s a] ∧ A < B)) ?_ ?_
  rotate_left
  · rintro V (h | ⟨rfl, h⟩)
    · exact ⟨V, AsV.refl V, h⟩
    · exact ⟨_, AsV.tup2 (AsV.nil _) (AsV.refl _), [], a, rfl, fun x hx => by simp at hx, hwa, by simp, by omega, by rw [Nat.div_eq_of_lt h]; rfl, by rw [Nat.mod_eq_of_lt h, hva]⟩
  refine pure_rule (fn := Tryz.f143) (code := bodyOf Tryz.f143) tys_ok (by kernel_rfl) rfl Tryz.func143 (by kernel_rfl) (Nat.le_of_ble_eq_true (by kernel_rfl)) ?_
  refine hcmp.mono ?_
  rintro _ ⟨r, rfl, hr1, hr2⟩
  refine And.intro (fun h => ?_) (fun h => ?_)
  · have hr : r < 0 := of_decide_eq_true h
    exact .inr ⟨rfl, hr1.1 hr⟩
  have hr : ¬ r < 0 := of_decide_eq_false h
  have hAB : B ≤ A := by omega
  have hba : b.length ≤ a.length := by
    rcases Nat.lt_or_ge a.length b.length with h | h
    · have := hlen h; omega
    · exact h
  refine And.intro (fun h1 => ?_) (fun h1 => ?_)
  · have hb1 : b.length = 1 := by
      have h' : (b.length : Int) = 1 := of_decide_eq_true h1
      omega
    obtain ⟨x, rfl⟩ : ∃ x, b = [x] := List.length_eq_one_iff.1 hb1
    have hx := hwb x (by simp)
    have hxv : x = B := by simpa [wv] using hvb
    refine Exists.intro x ⟨by decide, rfl, ?_⟩
    refine (shortDiv_t a x hwa (by omega) hx.2 (by omega)).mono ?_
    rintro _ ⟨q, rfl, q1, q2, q3⟩
    have hr0 : 0 ≤ wv a % x := Int.emod_nonneg _ (by omega)
    have hr1' : wv a % x < x := Int.emod_lt_of_pos _ (by omega)
    refine And.intro (by show 0 + 1 ≤ 1; decide) ?_
    refine .inl ⟨q, [wv a % x], rfl, q1, ?_, by omega, by simp, ?_, ?_⟩
    · intro y hy
      rw [List.mem_singleton.1 hy]; omega
    · rw [q3, hva, hxv]; rfl
    · rw [hva, hxv]
      simp only [wv]
      rw [Int.natCast_emod]; omega
  have hb2 : 2 ≤ b.length := by
    have h' : ¬ (b.length : Int) = 1 := of_decide_eq_false h1
    omega
  obtain ⟨n, hn⟩ : ∃ n, b.length = n := ⟨_, rfl⟩
  obtain ⟨m, hm⟩ : ∃ m, a.length = m := ⟨_, rfl⟩
  have hnl : n - 1 < b.length := by omega
  obtain ⟨x, ex⟩ : ∃ x, b[n - 1] = x := ⟨_, rfl⟩
  have hx := hwb _ (List.getElem_mem hnl)
  have hx0 : x ≠ 0 := by
    have := hNb hnz
    rw [List.getLast_eq_getElem] at this
    rw [← ex]
    simpa [hn] using this
  rw [ex] at hx
  have gx : b[n - 1]? = some x := by rw [← ex]; exact List.getElem?_eq_getElem hnl
  have en1 : IntKind.i64.wrap ((b.length : Int) - 1) = ((n - 1 : Nat) : Int) := by rw [wrap64 (by omega) (by omega)]; omega
  refine Exists.intro x ⟨by rw [en1]; omega, by rw [en1, Int.toNat_natCast]; exact gx, ?_⟩
  refine (LeadingZeros32_t x (by omega) hx.2).mono ?_
  rintro _ ⟨s, rfl, s1, s2, s3⟩
  refine (shifted_t a s hwa s1 (by omega)).mono ?_
  rintro _ _ _ ⟨u, rfl, rfl, rfl, u1, u2, u3⟩
  refine (shifted_t b s hwb s1 (by omega)).mono ?_
  rintro _ _ _ ⟨W, rfl, rfl, rfl, v1, v2, v3⟩
  rw [hn] at v2
  rw [hm] at u2
  obtain ⟨d1, d2, d3⟩ := shift_div (by omega) hn hwb gx s1 s2 s3 v2 v1 v3
  have emn : IntKind.i64.wrap (IntKind.i64.wrap ((a.length : Int) - (b.length : Int)) + 1) = ((m - n + 1 : Nat) : Int) := by rw [wrap64 (x := (a.length : Int) - (b.length : Int)) (by omega) (by omega), wrap64 (by omega) (by omega)]; omega
  have emn2 : ((m - n + 1 : Nat) : Int) - 1 = IntKind.i64.wrap ((a.length : Int) - (b.length : Int)) := by rw [wrap64 (by omega) (by omega)]; omega
  have w2 : ∀ x : Int, x = ((m - n + 1 : Nat) : Int) → 0 ≤ x ∧ x ≤ x ∧ (4 : Int) * x ≤ 281474976710656 ∧ x < 9223372036854775808 := fun x hx => by omega
  have w3 : m - n + 1 = (IntKind.i64.wrap (IntKind.i64.wrap ((a.length : Int) - (b.length : Int)) + 1)).toNat := by rw [emn]; omega
  have hn2 : 0 ≤ (n : Int) ∧ (n : Int) ≤ n ∧ (4 : Int) * n ≤ 281474976710656 ∧ (n : Int) < 9223372036854775808 := by omega
  refine And.intro ⟨Int.natCast_nonneg _, (by omega : (b.length : Int) ≤ ((b.length + 1 : Nat) : Int))⟩ ?_
  refine And.intro (w2 _ emn) ?_
  have hD0 : DInv W n m (wv u) (m - n + 1, u, List.replicate (m - n + 1) 0) := by
    refine ⟨Nat.le_refl _, u2, u1, by simp, ?_, ?_, ?_⟩
    · show Wd ((List.replicate (m - n + 1) (0 : Int)).drop (m - n + 1))
      rw [List.drop_of_length_le (by simp)]
      intro y hy; simp at hy
    · show wv (u.drop (m - n + 1)) < wv (W.take n)
      rw [d1]
      exact shift_top hm hwa s1 u2 u1 u3 (by omega) (by omega) d3
    · show wv u = wv (W.take n) * (4294967296 ^ (m - n + 1) * wv ((List.replicate (m - n + 1) (0 : Int)).drop (m - n + 1))) + wv u
      rw [List.drop_of_length_le (by simp)]
      simp [wv]
  refine ((digitLoop a b u W (List.replicate (m - n + 1) 0) n m s (wv u) (by omega) (by omega) (by omega) v2 v1 d2 hD0).ent ?_).mono ?_
  · refine ent_of rfl rfl ?_ ?_
    · exact ⟨rfl, rfl, ⟨rfl, w3, w3⟩, rfl, ⟨rfl, by rw [← hm], by rw [← hm]⟩, ⟨rfl, (by show n = (b.length : Int).toNat - 0; omega), (by show n + 1 = b.length + 1 - 0; omega)⟩, (by show (n : Int) = (b.length : Int); omega), emn2, trivial⟩
    · exact ⟨⟨rfl, fun _ => rfl⟩, ⟨rfl, fun _ => rfl⟩, ⟨(by show List.replicate (m - n + 1) (0 : Int) = List.replicate _ 0; rw [← w3]), fun _ => rfl⟩, trivial⟩
  rintro _ _ _ ⟨rfl, u', q, X, Y, ⟨i1, i2, i3, i4, i5, i6, i7⟩, rfl, rfl⟩
  simp only [List.drop_zero, Int.pow_zero, Int.one_mul] at i1 i2 i3 i4 i5 i6 i7
  refine And.intro hn2 ?_
  refine ((downLoop u' q n m s s1 (by omega) (by omega) i2 i3).ent ?_).mono ?_
  · refine ent_of rfl rfl ?_ ?_
    · exact ⟨⟨rfl, rfl, rfl⟩, ⟨rfl, (Int.toNat_natCast n).symm, (Int.toNat_natCast n).symm⟩, rfl, ⟨rfl, rfl, rfl⟩, rfl, rfl, trivial⟩
    · exact ⟨⟨rfl, fun _ => rfl⟩, trivial, ⟨rfl, fun _ => rfl⟩, ⟨(by show List.replicate n (0 : Int) = List.replicate ((n : Int).toNat) 0; rw [Int.toNat_natCast]), fun _ => rfl⟩, trivial⟩
  rintro _ _ _ ⟨rfl, r', X2, ⟨r1, r2, r3⟩, rfl, rfl⟩
  refine And.intro (by show 0 + (m - n + 1) ≤ q.length; omega) ?_
  refine And.intro (by show 0 + n ≤ r'.length; omega) ?_
  have sq : sub q 0 (m - n + 1) = q := by rw [sub, List.drop_zero, List.take_of_length_le (by omega)]
  have sr : sub r' 0 n = r' := by rw [sub, List.drop_zero, List.take_of_length_le (by omega)]
  have hun := wvn i3
  obtain ⟨z1, z2⟩ := shift_back (A := (A : Int)) (B := (B : Int)) (Q := wv q) (R := wv u') (s := s) (by omega) (by rw [← hva, ← hvb, ← u3, ← d1]; exact i7) hun (by rw [← hvb, ← d1]; exact i6)
  have hDn : wv (W.take n) < 4294967296 ^ n := by
    have := (wv_bound (v1.take n)).2
    rw [List.length_take, Nat.min_eq_left (by omega)] at this
    exact this
  have hzn := tail_zero (n := n) i3 (by omega)
  have hlt : n < u'.length := by omega
  have hcd := wv_cons_drop hlt
  have hn0 := i3 _ (List.getElem_mem hlt)
  have hn3 := wvn (i3.drop (n + 1))
  have hu0 : u'[n]! = 0 := by rw [getElem!_pos u' n hlt]; omega
  have hut : wv (u'.take (n + 1)) = wv u' := by
    have := seg u' (n + 1) (by omega)
    have hz : wv (u'.drop (n + 1)) = 0 := by omega
    rw [hz, Int.mul_zero] at this
    omega
  rw [hu0, hut, z2, Int.zero_ediv, Int.mul_zero, Int.add_zero] at r3
  refine .inl ⟨sub q 0 (m - n + 1), sub r' 0 n, rfl, by rw [sq]; exact i5, by rw [sr]; exact r2, by rw [sq]; omega, by rw [sr]; omega, ?_, ?_⟩
  · rw [sq, z1]; rfl
  · rw [sr, r3]; rfl
end Go.Proofs.YtnfgnkbgajhhbaaGreatDoor