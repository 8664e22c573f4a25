import Derived.Test.YtlnimeapichgmaaGreatDoorT4
import Derived.Test.YtlnimeapichgmaaGreatDoorW1
import Derived.Test.YtlnimeapichgmaaGreatDoorT15
import Derived.Test.YtlnimeapichgmaaGreatDoorT10
set_option linter.constructorNameAsVariable false
set_option linter.unusedSimpArgs false
set_option linter.unusedVariables false
namespace Go.Proofs.YtlnimeapichgmaaGreatDoor
open Go.Am Go.Tx Dv
set_option maxRecDepth 100000
set_option maxHeartbeats 4000000 in
theorem cmpWords_t (a b : List Int) (ha : Wd a) (hb : Wd b) (hl : a.length ≤ 1000000) (hl2 : b.length ≤ 1000000) : PureOK Tryz.prog hints 110 [u32s a, u32s b] (fun V => ∃ r : Int, V = .v (.i .i64) r ∧ (a.length ≠ b.length → r = a.length - b.length) ∧ (a.length = b.length → (r < 0 ↔ wv a < wv b) ∧ (r = 0 ↔ wv a = wv b))) := by
  refine pure_rule (fn := Tryz.f110) (code := bodyOf Tryz.f110) tys_ok (by kernel_rfl) rfl Tryz.func110 (by kernel_rfl) (Nat.le_of_ble_eq_true (by kernel_rfl)) ?_
  refine And.intro (fun h => ?_) (fun h => ?_)
  · have hne : a.length ≠ b.length := fun e => by
      have h' : (!decide ((a.length : Int) = b.length)) = true := h
      rw [e] at h'; simp at h'
    exact ⟨_, rfl, fun _ => wrap64 (by omega) (by omega), fun e => absurd e hne⟩
  · have hab : a.length = b.length := by have h' : (a.length : Int) = b.length := by simpa using h
                                         omega
    refine loop_wp tys_ok rfl (fun (k : Nat) => [(0, u32s a), (1, u32s b), (5, .v (.i .i64) ((k : Int) - 1))]) (fun _ => [])
      (fun k => k ≤ a.length ∧ a.drop k = b.drop k) (fun k => k) ?_ a.length ?_ ?_
    · rintro k ⟨hk, hd⟩
      refine And.intro (fun h => ?_) (fun h => ?_)
      · have hk1 : 1 ≤ k := by have := of_decide_eq_true h; omega
        obtain ⟨m, rfl⟩ : ∃ m, k = m + 1 := ⟨k - 1, by omega⟩
        have hm : m < a.length := by omega
        have ix : (((m + 1 : Nat) : Int) - 1).toNat = m := by omega
        have ix0 : (0 : Int) ≤ ((m + 1 : Nat) : Int) - 1 := by omega
        have hga : a[(((m + 1 : Nat) : Int) - 1).toNat]? = some a[m] := by rw [ix]; exact List.getElem?_eq_getElem hm
        have hgb : b[(((m + 1 : Nat) : Int) - 1).toNat]? = some b[m] := by rw [ix]; exact List.getElem?_eq_getElem (by omega)
        refine ⟨a[m], ix0, hga, ?_⟩
        refine ⟨b[m], ix0, hgb, ?_⟩
        refine And.intro (fun h2 => ?_) (fun h2 => ?_)
        · refine ⟨a[m], ix0, hga, ?_⟩
          refine ⟨b[m], ix0, hgb, ?_⟩
          refine And.intro (fun h3 => ?_) (fun h3 => ?_)
          · have hlt : a[m] < b[m] := of_decide_eq_true h3
            have hv := wv_high ha hb hm hab hd hlt
            exact ⟨-1, rfl, fun e => absurd hab e, fun _ => ⟨by omega, by omega⟩⟩
          · have hge : ¬ a[m] < b[m] := of_decide_eq_false h3
            have hne : a[m] ≠ b[m] := fun e => by
              have h' : (!decide (a[m] = b[m])) = true := h2
              rw [e] at h'; simp at h'
            have hv := wv_high hb ha (by omega : m < b.length) hab.symm hd.symm (by omega)
            exact ⟨1, rfl, fun e => absurd hab e, fun _ => ⟨by omega, by omega⟩⟩
        · have he : a[m] = b[m] := by
            have h' : (!decide (a[m] = b[m])) = false := h2
            simpa using h'
          refine ⟨m, ⟨by show m ≤ a.length; omega, ?_⟩, by show m < m + 1; omega, ?_⟩
          · show a.drop m = b.drop m
            rw [List.drop_eq_getElem_cons hm, List.drop_eq_getElem_cons (by omega : m < b.length), he, hd]
          · refine ent_of rfl rfl ?_ ?_
            · exact ⟨rfl, rfl, ((wrap64 (by omega) (by omega)).trans (by omega) : IntKind.i64.wrap (((m + 1 : Nat) : Int) - 1 - 1) = (m : Int) - 1).symm, trivial⟩
            · exact trivial
      · have hk0 : k = 0 := by have := of_decide_eq_false h; omega
        subst hk0
        rw [List.drop_zero, List.drop_zero] at hd
        exact ⟨0, rfl, fun e => absurd hab e, fun _ => ⟨by rw [hd]; omega, by rw [hd]; simp⟩⟩
    · exact ⟨Nat.le_refl _, by rw [List.drop_length, List.drop_of_length_le (by omega)]⟩
    · refine ent_of rfl rfl ?_ ?_
      · exact ⟨rfl, rfl, (wrap64 (by omega) (by omega)).symm, trivial⟩
      · exact trivial
end Go.Proofs.YtlnimeapichgmaaGreatDoor

/-
  Integers of any size: Add, Sub, Cmp.
-/
set_option linter.unusedSimpArgs false
set_option linter.unusedVariables false
namespace Go.Proofs.YtlnimeapichgmaaGreatDoor
open Go.Am Go.Tx Dv
set_option maxRecDepth 100000
theorem cmp_wOf (m n : Nat) (hm : (wOf m).length ≤ 1000000) (hn : (wOf n).length ≤ 1000000) : PureOK Tryz.prog hints 110 [u32s (wOf m), u32s (wOf n)] (fun V => ∃ r : Int, V = .v (.i .i64) r ∧ (r < 0 ↔ m < n) ∧ (r = 0 ↔ m = n)) := by
  refine (cmpWords_t _ _ (wd_wOf m) (wd_wOf n) hm hn).mono ?_
  rintro _ ⟨r, rfl, h1, h2⟩
  refine ⟨r, rfl, ?_⟩
  by_cases he : (wOf m).length = (wOf n).length
  · obtain ⟨h3, h4⟩ := h2 he
    rw [wv_wOf, wv_wOf] at h3 h4
    omega
  · have h1 := h1 he
    have g1 : (wOf m).length < (wOf n).length → m < n := fun h => by
      rcases Nat.lt_or_ge m n with h' | h'
      · exact h'
      · have := wOf_len_mono h'; omega
    have g2 : (wOf n).length < (wOf m).length → n < m := fun h => by
      rcases Nat.lt_or_ge n m with h' | h'
      · exact h'
      · have := wOf_len_mono h'; omega
    omega
set_option maxHeartbeats 4000000 in
theorem Add_t (a b : Int) (ha : ln a ≤ 900000) (hb : ln b ≤ 900000) : PureOK Tryz.prog hints 89 [IS a, IS b] (fun V => V = IS (a + b)) := by
  have ha' : (wOf a.natAbs).length ≤ 900000 := ha
  have hb' : (wOf b.natAbs).length ≤ 900000 := hb
  refine pure_rule (fn := Tryz.f89) (code := bodyOf Tryz.f89) tys_ok (by kernel_rfl) rfl Tryz.func89 (by kernel_rfl) (Nat.le_of_ble_eq_true (by kernel_rfl)) ?_
  refine And.intro rfl ?_
  refine And.intro rfl ?_
  refine And.intro (fun h => ?_) (fun h => ?_)
  · refine And.intro rfl ?_
    refine And.intro rfl ?_
    refine And.intro rfl ?_
    refine (addWords_t _ _ (wd_wOf _) (wd_wOf _) (by omega) (by omega)).mono ?_
    rintro _ ⟨out, rfl, h1, h2, h3⟩
    refine (norm_is _ out h1 (by omega)).mono ?_
    rintro _ rfl
    refine ⟨rfl, rfl, ?_⟩
    have hs : (decide (a < 0) == decide (b < 0)) = true := h
    have : sg (decide (a < 0)) (wv out) = a + b := by
      rw [h3, wv_wOf, wv_wOf]
      by_cases h0 : a < 0 <;> by_cases h1 : b < 0 <;> simp only [decide_eq_true, decide_eq_false, h0, h1, not_false_eq_true] at hs ⊢ <;> first
        | (simp at hs; done)
        | (simp only [sg]; omega)
    show IS (sg (decide (a < 0)) (wv out)) = IS (a + b)
    rw [this]
  · have hs : (decide (a < 0) == decide (b < 0)) = false := h
    refine And.intro rfl ?_
    refine And.intro rfl ?_
    refine (cmp_wOf _ _ (by omega) (by omega)).mono ?_
    rintro _ ⟨r, rfl, hr1, hr2⟩
    refine And.intro (fun h2 => ?_) (fun h2 => ?_)
    · have hr : 0 ≤ r := of_decide_eq_true h2
      have hle : b.natAbs ≤ a.natAbs := by omega
      refine And.intro rfl ?_
      refine And.intro rfl ?_
      refine And.intro rfl ?_
      refine (subWords_t _ _ (wd_wOf _) (wd_wOf _) (wOf_len_mono hle) (by omega) (by rw [wv_wOf, wv_wOf]; omega)).mono ?_
      rintro _ ⟨out, rfl, h1, h2, h3⟩
      refine (norm_is _ out h1 (by omega)).mono ?_
      rintro _ rfl
      refine ⟨rfl, rfl, ?_⟩
      have : sg (decide (a < 0)) (wv out) = a + b := by
        rw [h3, wv_wOf, wv_wOf]
        by_cases h0 : a < 0 <;> by_cases h1 : b < 0 <;> simp only [decide_eq_true, decide_eq_false, h0, h1, not_false_eq_true] at hs ⊢ <;> first
          | (simp at hs; done)
          | (simp only [sg]; omega)
      show IS (sg (decide (a < 0)) (wv out)) = IS (a + b)
      rw [this]
    · have hr : ¬ 0 ≤ r := of_decide_eq_false h2
      have hle : a.natAbs ≤ b.natAbs := by omega
      refine And.intro rfl ?_
      refine And.intro rfl ?_
      refine And.intro rfl ?_
      refine (subWords_t _ _ (wd_wOf _) (wd_wOf _) (wOf_len_mono hle) (by omega) (by rw [wv_wOf, wv_wOf]; omega)).mono ?_
      rintro _ ⟨out, rfl, h1, h2, h3⟩
      refine (norm_is _ out h1 (by omega)).mono ?_
      rintro _ rfl
      refine ⟨rfl, rfl, ?_⟩
      have : sg (decide (b < 0)) (wv out) = a + b := by
        rw [h3, wv_wOf, wv_wOf]
        by_cases h0 : a < 0 <;> by_cases h1 : b < 0 <;> simp only [decide_eq_true, decide_eq_false, h0, h1, not_false_eq_true] at hs ⊢ <;> first
          | (simp at hs; done)
          | (simp only [sg]; omega)
      show IS (sg (decide (b < 0)) (wv out)) = IS (a + b)
      rw [this]
set_option maxHeartbeats 4000000 in
theorem Sub_t (a b : Int) (ha : ln a ≤ 900000) (hb : ln b ≤ 900000) : PureOK Tryz.prog hints 100 [IS a, IS b] (fun V => V = IS (a - b)) := by
  refine pure_rule (fn := Tryz.f100) (code := bodyOf Tryz.f100) tys_ok (by kernel_rfl) rfl Tryz.func100 (by kernel_rfl) (Nat.le_of_ble_eq_true (by kernel_rfl)) ?_
  refine And.intro rfl ?_
  refine And.intro rfl ?_
  refine (Neg_t b (by omega)).mono ?_
  rintro _ rfl
  refine (Add_t a (-b) ha (by rw [ln_neg]; exact hb)).mono ?_
  rintro _ rfl
  refine ⟨rfl, rfl, ?_⟩
  show IS (a + -b) = IS (a - b)
  rw [Int.sub_eq_add_neg]
set_option maxHeartbeats 4000000 in
theorem Cmp_t (a b : Int) (ha : ln a ≤ 900000) (hb : ln b ≤ 900000) : PureOK Tryz.prog hints 92 [IS a, IS b] (fun V => V = .v (.i .i64) (a - b).sign) := by
  refine pure_rule (fn := Tryz.f92) (code := bodyOf Tryz.f92) tys_ok (by kernel_rfl) rfl Tryz.func92 (by kernel_rfl) (Nat.le_of_ble_eq_true (by kernel_rfl)) ?_
  refine And.intro rfl ?_
  refine And.intro rfl ?_
  refine (Sub_t a b ha hb).mono ?_
  rintro _ rfl
  refine (Sign_t _).mono ?_
  rintro _ rfl
  rfl
end Go.Proofs.YtlnimeapichgmaaGreatDoor

/-
  large.divWords: quotient and remainder.
-/
set_option linter.unusedSimpArgs false
set_option linter.unusedVariables false
namespace Go.Proofs.YtlnimeapichgmaaGreatDoor
open Go.Am Go.Tx Dv
set_option maxRecDepth 100000
set_option maxHeartbeats 16000000 in
theorem divWords_t (A B : Nat) (hB : 0 < B) (hla : (wOf A).length ≤ 800000) (hlb : (wOf B).length ≤ 800000) : PureOK Tryz.prog hints 106 [u32s (wOf A), u32s (wOf B)] (fun V => ∃ q r, V = .tup [u32s q, u32s r] ∧ Wd q ∧ Wd r ∧ q.length ≤ 800001 ∧ r.length ≤ 800001 ∧ wv q = (A / B : Nat) ∧ wv r = (A % B : Nat)) := by
  obtain ⟨a, ha⟩ : ∃ a, wOf A = a := ⟨_, rfl⟩
  obtain ⟨b, hb⟩ : ∃ b, wOf B = b := ⟨_, rfl⟩
  have hcmp := cmp_wOf A B (by omega) (by omega)
  have hlen : (wOf A).length < (wOf B).length → A < B := fun h => by
    rcases Nat.lt_or_ge A B with h' | h'
    · exact h'
    · have := wOf_len_mono h'; omega
  have hwa : Wd a := ha ▸ wd_wOf _
  have hwb : Wd b := hb ▸ wd_wOf _
  have hva : wv a = A := by rw [← ha]; exact wv_wOf _
  have hvb : wv b = B := by rw [← hb]; exact wv_wOf _
  have hnz : b ≠ [] := by
    rintro rfl
    have := wOf_nil.1 hb
    omega
  have hn1 : 1 ≤ b.length := by
    cases b with
    | nil => exact absurd rfl hnz
    | cons x l => simp
  have hNb : Nz b := hb ▸ nz_wOf _
  rw [ha] at hcmp hlen hla ⊢
  rw [hb] at hcmp hlen hlb ⊢
  refine PureOK.as (Q := fun V => (∃ q r, V = .tup [u32s q, u32s r] ∧ Wd q ∧ Wd r ∧ q.length ≤ 800001 ∧ r.length ≤ 800001 ∧ wv q = (A / B : Nat) ∧ wv r = (A % B : Nat)) ∨ (V = .tup [.nils, u32s a] ∧ A < B)) ?_ ?_
  rotate_left
  · rintro V (h | ⟨rfl, h⟩)
    · exact ⟨V, AsV.refl V, h⟩
    · exact ⟨_, AsV.tup2 (AsV.nil _) (AsV.refl _), [], a, rfl, fun x hx => by simp at hx, hwa, by simp, by omega, by rw [Nat.div_eq_of_lt h]; rfl, by rw [Nat.mod_eq_of_lt h, hva]⟩
  refine pure_rule (fn := Tryz.f106) (code := bodyOf Tryz.f106) tys_ok (by kernel_rfl) rfl Tryz.func106 (by kernel_rfl) (Nat.le_of_ble_eq_true (by kernel_rfl)) ?_
  refine hcmp.mono ?_
  rintro _ ⟨r, rfl, hr1, hr2⟩
  refine And.intro (fun h => ?_) (fun h => ?_)
  · have hr : r < 0 := of_decide_eq_true h
    exact .inr ⟨rfl, hr1.1 hr⟩
  have hr : ¬ r < 0 := of_decide_eq_false h
  have hAB : B ≤ A := by omega
  have hba : b.length ≤ a.length := by
    rcases Nat.lt_or_ge a.length b.length with h | h
    · have := hlen h; omega
    · exact h
  refine And.intro (fun h1 => ?_) (fun h1 => ?_)
  · have hb1 : b.length = 1 := by
      have h' : (b.length : Int) = 1 := of_decide_eq_true h1
      omega
    obtain ⟨x, rfl⟩ : ∃ x, b = [x] := List.length_eq_one_iff.1 hb1
    have hx := hwb x (by simp)
    have hxv : x = B := by simpa [wv] using hvb
    refine Exists.intro x ⟨by decide, rfl, ?_⟩
    refine (shortDiv_t a x hwa (by omega) hx.2 (by omega)).mono ?_
    rintro _ ⟨q, rfl, q1, q2, q3⟩
    have hr0 : 0 ≤ wv a % x := Int.emod_nonneg _ (by omega)
    have hr1' : wv a % x < x := Int.emod_lt_of_pos _ (by omega)
    refine And.intro (by show 0 + 1 ≤ 1; decide) ?_
    refine .inl ⟨q, [wv a % x], rfl, q1, ?_, by omega, by simp, ?_, ?_⟩
    · intro y hy
      rw [List.mem_singleton.1 hy]; omega
    · rw [q3, hva, hxv]; rfl
    · rw [hva, hxv]
      simp only [wv]
      rw [Int.natCast_emod]; omega
  have hb2 : 2 ≤ b.length := by
    have h' : ¬ (b.length : Int) = 1 := of_decide_eq_false h1
    omega
  obtain ⟨n, hn⟩ : ∃ n, b.length = n := ⟨_, rfl⟩
  obtain ⟨m, hm⟩ : ∃ m, a.length = m := ⟨_, rfl⟩
  have hnl : n - 1 < b.length := by omega
  obtain ⟨x, ex⟩ : ∃ x, b[n - 1] = x := ⟨_, rfl⟩
  have hx := hwb _ (List.getElem_mem hnl)
  have hx0 : x ≠ 0 := by
    have := hNb hnz
    rw [List.getLast_eq_getElem] at this
    rw [← ex]
    simpa [hn] using this
  rw [ex] at hx
  have gx : b[n - 1]? = some x := by rw [← ex]; exact List.getElem?_eq_getElem hnl
  have en1 : IntKind.i64.wrap ((b.length : Int) - 1) = ((n - 1 : Nat) : Int) := by rw [wrap64 (by omega) (by omega)]; omega
  refine Exists.intro x ⟨by rw [en1]; omega, by rw [en1, Int.toNat_natCast]; exact gx, ?_⟩
  refine (LeadingZeros32_t x (by omega) hx.2).mono ?_
  rintro _ ⟨s, rfl, s1, s2, s3⟩
  refine (shifted_t a s hwa s1 (by omega)).mono ?_
  rintro _ _ _ ⟨u, rfl, rfl, rfl, u1, u2, u3⟩
  refine (shifted_t b s hwb s1 (by omega)).mono ?_
  rintro _ _ _ ⟨W, rfl, rfl, rfl, v1, v2, v3⟩
  rw [hn] at v2
  rw [hm] at u2
  obtain ⟨d1, d2, d3⟩ := shift_div (by omega) hn hwb gx s1 s2 s3 v2 v1 v3
  have emn : IntKind.i64.wrap (IntKind.i64.wrap ((a.length : Int) - (b.length : Int)) + 1) = ((m - n + 1 : Nat) : Int) := by rw [wrap64 (x := (a.length : Int) - (b.length : Int)) (by omega) (by omega), wrap64 (by omega) (by omega)]; omega
  have emn2 : ((m - n + 1 : Nat) : Int) - 1 = IntKind.i64.wrap ((a.length : Int) - (b.length : Int)) := by rw [wrap64 (by omega) (by omega)]; omega
  have w2 : ∀ x : Int, x = ((m - n + 1 : Nat) : Int) → 0 ≤ x ∧ x ≤ x ∧ (4 : Int) * x ≤ 281474976710656 ∧ x < 9223372036854775808 := fun x hx => by omega
  have w3 : m - n + 1 = (IntKind.i64.wrap (IntKind.i64.wrap ((a.length : Int) - (b.length : Int)) + 1)).toNat := by rw [emn]; omega
  have hn2 : 0 ≤ (n : Int) ∧ (n : Int) ≤ n ∧ (4 : Int) * n ≤ 281474976710656 ∧ (n : Int) < 9223372036854775808 := by omega
  refine And.intro ⟨Int.natCast_nonneg _, (by omega : (b.length : Int) ≤ ((b.length + 1 : Nat) : Int))⟩ ?_
  refine And.intro (w2 _ emn) ?_
  have hD0 : DInv W n m (wv u) (m - n + 1, u, List.replicate (m - n + 1) 0) := by
    refine ⟨Nat.le_refl _, u2, u1, by simp, ?_, ?_, ?_⟩
    · show Wd ((List.replicate (m - n + 1) (0 : Int)).drop (m - n + 1))
      rw [List.drop_of_length_le (by simp)]
      intro y hy; simp at hy
    · show wv (u.drop (m - n + 1)) < wv (W.take n)
      rw [d1]
      exact shift_top hm hwa s1 u2 u1 u3 (by omega) (by omega) d3
    · show wv u = wv (W.take n) * (4294967296 ^ (m - n + 1) * wv ((List.replicate (m - n + 1) (0 : Int)).drop (m - n + 1))) + wv u
      rw [List.drop_of_length_le (by simp)]
      simp [wv]
  refine ((digitLoop a b u W (List.replicate (m - n + 1) 0) n m s (wv u) (by omega) (by omega) (by omega) v2 v1 d2 hD0).ent ?_).mono ?_
  · refine ent_of rfl rfl ?_ ?_
    · exact ⟨rfl, rfl, ⟨rfl, w3, w3⟩, rfl, ⟨rfl, by rw [← hm], by rw [← hm]⟩, ⟨rfl, (by show n = (b.length : Int).toNat - 0; omega), (by show n + 1 = b.length + 1 - 0; omega)⟩, (by show (n : Int) = (b.length : Int); omega), emn2, trivial⟩
    · exact ⟨⟨rfl, fun _ => rfl⟩, ⟨rfl, fun _ => rfl⟩, ⟨(by show List.replicate (m - n + 1) (0 : Int) = List.replicate _ 0; rw [← w3]), fun _ => rfl⟩, trivial⟩
  rintro _ _ _ ⟨rfl, u', q, X, Y, ⟨i1, i2, i3, i4, i5, i6, i7⟩, rfl, rfl⟩
  simp only [List.drop_zero, Int.pow_zero, Int.one_mul] at i1 i2 i3 i4 i5 i6 i7
  refine And.intro hn2 ?_
  refine ((downLoop u' q n m s s1 (by omega) (by omega) i2 i3).ent ?_).mono ?_
  · refine ent_of rfl rfl ?_ ?_
    · exact ⟨⟨rfl, rfl, rfl⟩, ⟨rfl, (Int.toNat_natCast n).symm, (Int.toNat_natCast n).symm⟩, rfl, ⟨rfl, rfl, rfl⟩, rfl, rfl, trivial⟩
    · exact ⟨⟨rfl, fun _ => rfl⟩, trivial, ⟨rfl, fun _ => rfl⟩, ⟨(by show List.replicate n (0 : Int) = List.replicate ((n : Int).toNat) 0; rw [Int.toNat_natCast]), fun _ => rfl⟩, trivial⟩
  rintro _ _ _ ⟨rfl, r', X2, ⟨r1, r2, r3⟩, rfl, rfl⟩
  refine And.intro (by show 0 + (m - n + 1) ≤ q.length; omega) ?_
  refine And.intro (by show 0 + n ≤ r'.length; omega) ?_
  have sq : sub q 0 (m - n + 1) = q := by rw [sub, List.drop_zero, List.take_of_length_le (by omega)]
  have sr : sub r' 0 n = r' := by rw [sub, List.drop_zero, List.take_of_length_le (by omega)]
  have hun := wvn i3
  obtain ⟨z1, z2⟩ := shift_back (A := (A : Int)) (B := (B : Int)) (Q := wv q) (R := wv u') (s := s) (by omega) (by rw [← hva, ← hvb, ← u3, ← d1]; exact i7) hun (by rw [← hvb, ← d1]; exact i6)
  have hDn : wv (W.take n) < 4294967296 ^ n := by
    have := (wv_bound (v1.take n)).2
    rw [List.length_take, Nat.min_eq_left (by omega)] at this
    exact this
  have hzn := tail_zero (n := n) i3 (by omega)
  have hlt : n < u'.length := by omega
  have hcd := wv_cons_drop hlt
  have hn0 := i3 _ (List.getElem_mem hlt)
  have hn3 := wvn (i3.drop (n + 1))
  have hu0 : u'[n]! = 0 := by rw [getElem!_pos u' n hlt]; omega
  have hut : wv (u'.take (n + 1)) = wv u' := by
    have := seg u' (n + 1) (by omega)
    have hz : wv (u'.drop (n + 1)) = 0 := by omega
    rw [hz, Int.mul_zero] at this
    omega
  rw [hu0, hut, z2, Int.zero_ediv, Int.mul_zero, Int.add_zero] at r3
  refine .inl ⟨sub q 0 (m - n + 1), sub r' 0 n, rfl, by rw [sq]; exact i5, by rw [sr]; exact r2, by rw [sq]; omega, by rw [sr]; omega, ?_, ?_⟩
  · rw [sq, z1]; rfl
  · rw [sr, r3]; rfl
end Go.Proofs.YtlnimeapichgmaaGreatDoor
