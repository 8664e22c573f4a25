import Derived.Test.YtnfgnkbgajhhbaaGreatDoorT4
import Derived.Test.YtnfgnkbgajhhbaaGreatDoorT7
set_option linter.constructorNameAsVariable false
set_option linter.unusedSimpArgs false
set_option linter.unusedVariables false
namespace Go.Proofs.YtnfgnkbgajhhbaaGreatDoor
open Go.Am Go.Tx Dv
set_option maxRecDepth 100000
set_option maxHeartbeats 4000000 in
theorem cmpWords_t (a b : List Int) (ha : Wd a) (hb : Wd b) (hl : a.length ≤ 1000000) (hl2 : b.length ≤ 1000000) : PureOK Tryz.prog hints 129 [u32s a, u32s b] (fun V => ∃ r : Int, V = .v (.i .i64) r ∧ (a.length ≠ b.length → r = a.length - b.length) ∧ (a.length = b.length → (r < 0 ↔ wv a < wv b) ∧ (r = 0 ↔ wv a = wv b))) := by
  refine pure_rule (fn := Tryz.f129) (code := bodyOf Tryz.f129) tys_ok (by kernel_rfl) rfl Tryz.func129 (by kernel_rfl) (Nat.le_of_ble_eq_true (by kernel_rfl)) ?_
  refine And.intro (fun h => ?_) (fun h => ?_)
  · have hne : a.length ≠ b.length := fun e => by
      have h' : (!decide ((a.length : Int) = b.length)) = true := h
      rw [e] at h'; simp at h'
    exact ⟨_, rfl, fun _ => wrap64 (by omega) (by omega), fun e => absurd e hne⟩
  · have hab : a.length = b.length := by have h' : (a.length : Int) = b.length := by simpa using h
                                         omega
    refine loop_wp tys_ok rfl (fun (k : Nat) => [(0, u32s a), (1, u32s b), (5, .v (.i .i64) ((k : Int) - 1))]) (fun _ => [])
      (fun k => k ≤ a.length ∧ a.drop k = b.drop k) (fun k => k) ?_ a.length ?_ ?_
    · rintro k ⟨hk, hd⟩
      refine And.intro (fun h => ?_) (fun h => ?_)
      · have hk1 : 1 ≤ k := by have := of_decide_eq_true h; omega
        obtain ⟨m, rfl⟩ : ∃ m, k = m + 1 := ⟨k - 1, by omega⟩
        have hm : m < a.length := by omega
        have ix : (((m + 1 : Nat) : Int) - 1).toNat = m := by omega
        have ix0 : (0 : Int) ≤ ((m + 1 : Nat) : Int) - 1 := by omega
        have hga : a[(((m + 1 : Nat) : Int) - 1).toNat]? = some a[m] := by rw [ix]; exact List.getElem?_eq_getElem hm
        have hgb : b[(((m + 1 : Nat) : Int) - 1).toNat]? = some b[m] := by rw [ix]; exact List.getElem?_eq_getElem (by omega)
        refine ⟨a[m], ix0, hga, ?_⟩
        refine ⟨b[m], ix0, hgb, ?_⟩
        refine And.intro (fun h2 => ?_) (fun h2 => ?_)
        · refine ⟨a[m], ix0, hga, ?_⟩
          refine ⟨b[m], ix0, hgb, ?_⟩
          refine And.intro (fun h3 => ?_) (fun h3 => ?_)
          · have hlt : a[m] < b[m] := of_decide_eq_true h3
            have hv := wv_high ha hb hm hab hd hlt
            exact ⟨-1, rfl, fun e => absurd hab e, fun _ => ⟨by omega, by omega⟩⟩
          · have hge : ¬ a[m] < b[m] := of_decide_eq_false h3
            have hne : a[m] ≠ b[m] := fun e => by
              have h' : (!decide (a[m] = b[m])) = true := h2
              rw [e] at h'; simp at h'
            have hv := wv_high hb ha (by omega : m < b.length) hab.symm hd.symm (by omega)
            exact ⟨1, rfl, fun e => absurd hab e, fun _ => ⟨by omega, by omega⟩⟩
        · have he : a[m] = b[m] := by
            have h' : (!decide (a[m] = b[m])) = false := h2
            simpa using h'
          refine ⟨m, ⟨by show m ≤ a.length; omega, ?_⟩, by show m < m + 1; omega, ?_⟩
          · show a.drop m = b.drop m
            rw [List.drop_eq_getElem_cons hm, List.drop_eq_getElem_cons (by omega : m < b.length), he, hd]
          · refine ent_of rfl rfl ?_ ?_
            · exact ⟨rfl, rfl, ((wrap64 (by omega) (by omega)).trans (by omega) : IntKind.i64.wrap (((m + 1 : Nat) : Int) - 1 - 1) = (m : Int) - 1).symm, trivial⟩
            · exact trivial
      · have hk0 : k = 0 := by have := of_decide_eq_false h; omega
        subst hk0
        rw [List.drop_zero, List.drop_zero] at hd
        exact ⟨0, rfl, fun e => absurd hab e, fun _ => ⟨by rw [hd]; omega, by rw [hd]; simp⟩⟩
    · exact ⟨Nat.le_refl _, by rw [List.drop_length, List.drop_of_length_le (by omega)]⟩
    · refine ent_of rfl rfl ?_ ?_
      · exact ⟨rfl, rfl, (wrap64 (by omega) (by omega)).symm, trivial⟩
      · exact trivial
end Go.Proofs.YtnfgnkbgajhhbaaGreatDoor
/-
  Integers of any size: Add, Sub, Cmp.
-/
set_option linter.unusedSimpArgs false
set_option linter.unusedVariables false
namespace Go.Proofs.YtnfgnkbgajhhbaaGreatDoor
open Go.Am Go.Tx Dv
set_option maxRecDepth 100000
theorem cmp_wOf (m n : Nat) (hm : (wOf m).length ≤ 1000000) (hn : (wOf n).length ≤ 1000000) : PureOK Tryz.prog hints 129 [u32s (wOf m), u32s (wOf n)] (fun V => ∃ r : Int, V = .v (.i .i64) r ∧ (r < 0 ↔ m < n) ∧ (r = 0 ↔ m = n)) := by
  refine (cmpWords_t _ _ (wd_wOf m) (wd_wOf n) hm hn).mono ?_
  rintro _ ⟨r, rfl, h1, h2⟩
  refine ⟨r, rfl, ?_⟩
  by_cases he : (wOf m).length = (wOf n).length
  · obtain ⟨h3, h4⟩ := h2 he
    rw [wv_wOf, wv_wOf] at h3 h4
    omega
  · have h1 := h1 he
    have g1 : (wOf m).length < (wOf n).length → m < n := fun h => by
      rcases Nat.lt_or_ge m n with h' | h'
      · exact h'
      · have := wOf_len_mono h'; omega
    have g2 : (wOf n).length < (wOf m).length → n < m := fun h => by
      rcases Nat.lt_or_ge n m with h' | h'
      · exact h'
      · have := wOf_len_mono h'; omega
    omega
set_option maxHeartbeats 4000000 in
theorem Add_t (a b : Int) (ha : ln a ≤ 900000) (hb : ln b ≤ 900000) : PureOK Tryz.prog hints 103 [IS a, IS b] (fun V => V = IS (a + b)) := by
  have ha' : (wOf a.natAbs).length ≤ 900000 := ha
  have hb' : (wOf b.natAbs).length ≤ 900000 := hb
  refine pure_rule (fn := Tryz.f103) (code := bodyOf Tryz.f103) tys_ok (by kernel_rfl) rfl Tryz.func103 (by kernel_rfl) (Nat.le_of_ble_eq_true (by kernel_rfl)) ?_
  refine And.intro rfl ?_
  refine And.intro rfl ?_
  refine And.intro (fun h => ?_) (fun h => ?_)
  · refine And.intro rfl ?_
    refine And.intro rfl ?_
    refine And.intro rfl ?_
    refine (addWords_t _ _ (wd_wOf _) (wd_wOf _) (by omega) (by omega)).mono ?_
    rintro _ ⟨out, rfl, h1, h2, h3⟩
    refine (norm_is _ out h1 (by omega)).mono ?_
    rintro _ rfl
    refine ⟨rfl, rfl, ?_⟩
    have hs : (decide (a < 0) == decide (b < 0)) = true := h
    have : sg (decide (a < 0)) (wv out) = a + b := by
      rw [h3, wv_wOf, wv_wOf]
      by_cases h0 : a < 0 <;> by_cases h1 : b < 0 <;> simp only [decide_eq_true, decide_eq_false, h0, h1, not_false_eq_true] at hs ⊢ <;> first
        | (simp at hs; done)
        | (simp only [sg]; omega)
    show IS (sg (decide (a < 0)) (wv out)) = IS (a + b)
    rw [this]
  · have hs : (decide (a < 0) == decide (b < 0)) = false := h
    refine And.intro rfl ?_
    refine And.intro rfl ?_
    refine (cmp_wOf _ _ (by omega) (by omega)).mono ?_
    rintro _ ⟨r, rfl, hr1, hr2⟩
    refine And.intro (fun h2 => ?_) (fun h2 => ?_)
    · have hr : 0 ≤ r := of_decide_eq_true h2
      have hle : b.natAbs ≤ a.natAbs := by omega
      refine And.intro rfl ?_
      refine And.intro rfl ?_
      refine And.intro rfl ?_
      refine (subWords_t _ _ (wd_wOf _) (wd_wOf _) (wOf_len_mono hle) (by omega) (by rw [wv_wOf, wv_wOf]; omega)).mono ?_
      rintro _ ⟨out, rfl, h1, h2, h3⟩
      refine (norm_is _ out h1 (by omega)).mono ?_
      rintro _ rfl
      refine ⟨rfl, rfl, ?_⟩
      have : sg (decide (a < 0)) (wv out) = a + b := by
        rw [h3, wv_wOf, wv_wOf]
        by_cases h0 : a < 0 <;> by_cases h1 : b < 0 <;> simp only [decide_eq_true, decide_eq_false, h0, h1, not_false_eq_true] at hs ⊢ <;> first
          | (simp at hs; done)
          | (simp only [sg]; omega)
      show IS (sg (decide (a < 0)) (wv out)) = IS (a + b)
      rw [this]
    · have hr : ¬ 0 ≤ r := of_decide_eq_false h2
      have hle : a.natAbs ≤ b.natAbs := by omega
      refine And.intro rfl ?_
      refine And.intro rfl ?_
      refine And.intro rfl ?_
      refine (subWords_t _ _ (wd_wOf _) (wd_wOf _) (wOf_len_mono hle) (by omega) (by rw [wv_wOf, wv_wOf]; omega)).mono ?_
      rintro _ ⟨out, rfl, h1, h2, h3⟩
      refine (norm_is _ out h1 (by omega)).mono ?_
      rintro _ rfl
      refine ⟨rfl, rfl, ?_⟩
      have : sg (decide (b < 0)) (wv out) = a + b := by
        rw [h3, wv_wOf, wv_wOf]
        by_cases h0 : a < 0 <;> by_cases h1 : b < 0 <;> simp only [decide_eq_true, decide_eq_false, h0, h1, not_false_eq_true] at hs ⊢ <;> first
          | (simp at hs; done)
          | (simp only [sg]; omega)
      show IS (sg (decide (b < 0)) (wv out)) = IS (a + b)
      rw [this]
set_option maxHeartbeats 4000000 in
theorem Sub_t (a b : Int) (ha : ln a ≤ 900000) (hb : ln b ≤ 900000) : PureOK Tryz.prog hints 140 [IS a, IS b] (fun V => V = IS (a - b)) := by
  refine pure_rule (fn := Tryz.f140) (code := bodyOf Tryz.f140) tys_ok (by kernel_rfl) rfl Tryz.func140 (by kernel_rfl) (Nat.le_of_ble_eq_true (by kernel_rfl)) ?_
  refine And.intro rfl ?_
  refine And.intro rfl ?_
  refine (Neg_t b (by omega)).mono ?_
  rintro _ rfl
  refine (Add_t a (-b) ha (by rw [ln_neg]; exact hb)).mono ?_
  rintro _ rfl
  refine ⟨rfl, rfl, ?_⟩
  show IS (a + -b) = IS (a - b)
  rw [Int.sub_eq_add_neg]
set_option maxHeartbeats 4000000 in
theorem Cmp_t (a b : Int) (ha : ln a ≤ 900000) (hb : ln b ≤ 900000) : PureOK Tryz.prog hints 116 [IS a, IS b] (fun V => V = .v (.i .i64) (a - b).sign) := by
  refine pure_rule (fn := Tryz.f116) (code := bodyOf Tryz.f116) tys_ok (by kernel_rfl) rfl Tryz.func116 (by kernel_rfl) (Nat.le_of_ble_eq_true (by kernel_rfl)) ?_
  refine And.intro rfl ?_
  refine And.intro rfl ?_
  refine (Sub_t a b ha hb).mono ?_
  rintro _ rfl
  refine (Sign_t _).mono ?_
  rintro _ rfl
  rfl
end Go.Proofs.YtnfgnkbgajhhbaaGreatDoor