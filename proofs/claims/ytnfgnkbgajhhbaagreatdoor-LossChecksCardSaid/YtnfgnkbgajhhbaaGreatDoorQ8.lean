/-
  The reference: parts, Canon, RatAdd, RatSub, RatNeg, RatMul, RatDiv, RatSign, RatCmp.
-/
import Derived.Test.YtnfgnkbgajhhbaaGreatDoorQ5
import Derived.Test.YtnfgnkbgajhhbaaGreatDoorR3
import Derived.Test.YtnfgnkbgajhhbaaGreatDoorR4
import Derived.Test.YtnfgnkbgajhhbaaGreatDoorDq
set_option linter.constructorNameAsVariable false
set_option linter.unusedSimpArgs false
set_option linter.unusedVariables false
namespace Go.Proofs.YtnfgnkbgajhhbaaGreatDoor
open Go.Am Go.Tx Dv Go.Lib
set_option maxRecDepth 100000
def dl (n : Nat) : Nat := (decDigits n).length
theorem dl_pos (n : Nat) : 1 ≤ dl n := List.length_pos_iff.2 (digits_ne n)
theorem dl_lt (n : Nat) : n < 10 ^ dl n := (digits_len (dl_pos n)).1 (Nat.le_refl _)
theorem dl_le {n k : Nat} (hk : 1 ≤ k) (h : n < 10 ^ k) : dl n ≤ k := (digits_len hk).2 h
theorem dl_mul (m n : Nat) : dl (m * n) ≤ dl m + dl n := by
  refine dl_le (by have := dl_pos m; omega) ?_
  rw [Nat.pow_add]
  exact Nat.mul_lt_mul'' (dl_lt m) (dl_lt n)
theorem dl_add (m n : Nat) : dl (m + n) ≤ max (dl m) (dl n) + 1 := by
  refine dl_le (by omega) ?_
  rw [Nat.pow_succ]
  have h1 := Nat.lt_of_lt_of_le (dl_lt m) (Nat.pow_le_pow_right (n := 10) (by decide) (Nat.le_max_left (dl m) (dl n)))
  have h2 := Nat.lt_of_lt_of_le (dl_lt n) (Nat.pow_le_pow_right (n := 10) (by decide) (Nat.le_max_right (dl m) (dl n)))
  omega
theorem dl_mono {m n : Nat} (h : m ≤ n) : dl m ≤ dl n := dl_le (dl_pos n) (Nat.lt_of_le_of_lt h (dl_lt n))
theorem dl_one : dl 1 = 1 := by rw [dl, decDigits_one (by decide)]; rfl
def dz (q : Rat) (k : Nat) : Prop := dl q.num.natAbs ≤ k ∧ dl q.den ≤ k
theorem dz_ratio {n : Int} {d k : Nat} (hd : 0 < d) (h1 : dl n.natAbs ≤ k) (h2 : dl d ≤ k) : dz (Rat.divInt n d) k := by
  obtain ⟨e1, e2⟩ := ratio_num (n := n) (d := (d : Int)) (by omega)
  constructor
  · rw [e1]
    exact Nat.le_trans (dl_mono (Int.natAbs_ediv_le_natAbs _ _)) h1
  · have h3 : (Rat.divInt n d).den ≤ d := by
      have := Int.ediv_le_self (a := (d : Int)) (Int.gcd n d : Int) (by omega)
      omega
    exact Nat.le_trans (dl_mono h3) h2
theorem dz_add {p q : Rat} {k m : Nat} (hp : dz p k) (hq : dz q m) : dz (p + q) (k + m + 1) := by
  rw [← add_frac, ← Int.natCast_mul]
  obtain ⟨p1, p2⟩ := hp
  obtain ⟨q1, q2⟩ := hq
  have h1 := dl_mul p.num.natAbs q.den
  have h2 := dl_mul q.num.natAbs p.den
  have h3 := dl_mul p.den q.den
  have h4 := dl_add (p.num.natAbs * q.den) (q.num.natAbs * p.den)
  refine dz_ratio (Nat.mul_pos p.den_pos q.den_pos) ?_ (by omega)
  refine Nat.le_trans (dl_mono (Int.natAbs_add_le _ _)) ?_
  rw [Int.natAbs_mul, Int.natAbs_mul, Int.natAbs_natCast, Int.natAbs_natCast]
  omega
theorem dz_mul {p q : Rat} {k m : Nat} (hp : dz p k) (hq : dz q m) : dz (p * q) (k + m) := by
  rw [← mul_frac, ← Int.natCast_mul]
  obtain ⟨p1, p2⟩ := hp
  obtain ⟨q1, q2⟩ := hq
  have h1 := dl_mul p.num.natAbs q.num.natAbs
  have h3 := dl_mul p.den q.den
  refine dz_ratio (Nat.mul_pos p.den_pos q.den_pos) ?_ (by omega)
  rw [Int.natAbs_mul]
  omega
theorem dz_neg {p : Rat} {k : Nat} (hp : dz p k) : dz (-p) k := by
  obtain ⟨p1, p2⟩ := hp
  refine ⟨?_, p2⟩
  show dl (-p.num).natAbs ≤ k
  rw [Int.natAbs_neg]
  exact p1
theorem dz_mono {p : Rat} {k m : Nat} (h : k ≤ m) (hp : dz p k) : dz p m := ⟨Nat.le_trans hp.1 h, Nat.le_trans hp.2 h⟩
theorem dz_fit {p : Rat} {k : Nat} (h : k ≤ 2000) (hp : dz p k) : fitQ p = true := fitQ_iff.2 ⟨Nat.le_trans hp.1 h, Nat.le_trans hp.2 h⟩
theorem dz_text {p : Rat} {k : Nat} (h : (ratT p).length ≤ k) (hk : 1 ≤ k) : dz p k := by
  have hm : ∀ (m : Bool) (s : List UInt8), s.length ≤ (mns m s).length := fun m s => by cases m <;> simp [mns]
  have h1 := hm (decide (p.num < 0)) (decDigits p.num.natAbs ++ fracT p.den)
  rw [List.length_append] at h1
  have h2 : (ratT p).length = (mns (decide (p.num < 0)) (decDigits p.num.natAbs ++ fracT p.den)).length := rfl
  refine ⟨by show (decDigits p.num.natAbs).length ≤ k; omega, ?_⟩
  cases hd : decide (p.den = 1) with
  | true => rw [of_decide_eq_true hd, dl_one]; exact hk
  | false =>
    have h3 : (fracT p.den).length = dl p.den + 1 := by
      rw [fracT, hd]
      rfl
    omega
theorem eq45 (c : UInt8) : decide ((c.toNat : Int) = 45) = (some c == some (45 : UInt8)) := by
  rw [Bool.eq_iff_iff, decide_eq_true_eq, beq_iff_eq, Option.some.injEq]
  constructor
  · intro h
    exact UInt8.toNat_inj.1 (by show c.toNat = 45; omega)
  · rintro rfl; rfl
theorem eq47 (c : UInt8) : decide ((c.toNat : Int) = 47) = Nat.beq c.toNat (47 : UInt8).toNat := by
  rw [Bool.eq_iff_iff, decide_eq_true_eq, Nat.beq_eq]
  show _ ↔ c.toNat = 47
  omega
theorem part_eq3 (m : Bool) {x y x' y' : List UInt8} (h1 : x = x') (h2 : y = y') : SV.tup [.v .b m, .v .s x, .v .s y] = SV.tup [.v .b m, .v .s x', .v .s y'] := by rw [h1, h2]
set_option maxHeartbeats 8000000 in
theorem parts_t (q : Rat) {k : Nat} (hk : k ≤ 1000000) (hz : dz q k) : PureOK Tryz.prog hints 70 [.v .s (ratT q)] (fun V => V = .tup [.v .b (decide (q.num < 0)), .v .s (decDigits q.num.natAbs), .v .s (decDigits q.den)]) := by
  refine pure_rule (fn := Tryz.f70) (code := bodyOf Tryz.f70) tys_ok (by kernel_rfl) rfl Tryz.func70 (by kernel_rfl) (Nat.le_of_ble_eq_true (by kernel_rfl)) ?_
  obtain ⟨z1, z2⟩ := hz
  have hS := rAbs_ratT q
  have hN := rNeg_ratT q
  have hcut := cut_ratT q.num.natAbs q.den
  have hSl : (decDigits q.num.natAbs ++ fracT q.den).length ≤ 3000000 := by
    have h1 : (decDigits q.num.natAbs).length ≤ k := z1
    have h2 : (decDigits q.den).length ≤ k := z2
    have h3 : (fracT q.den).length ≤ k + 1 := by
      unfold fracT
      cases decide (q.den = 1) with
      | true => simp
      | false => simp only [List.length_cons]; omega
    rw [List.length_append]
    omega
  obtain ⟨S, eS⟩ : ∃ S, decDigits q.num.natAbs ++ fracT q.den = S := ⟨_, rfl⟩
  rw [eS] at hS hcut hSl
  obtain ⟨a, ea⟩ : ∃ a, ratT q = a := ⟨_, rfl⟩
  rw [ea] at hS hN ⊢
  have hane : a ≠ [] := by
    rintro rfl
    have h0 := ratT_head q.num.natAbs q.den
    rw [eS, ← hS] at h0
    have h1 : rAbs [] = [] := rfl
    have : decDigits q.num.natAbs ++ fracT q.den = [] := by rw [eS, ← hS, h1]
    exact digits_ne _ (List.append_eq_nil_iff.1 this).1
  obtain ⟨c, l, hcl⟩ : ∃ c l, a = c :: l := List.exists_cons_of_ne_nil hane
  have hc0 : a[(0 : Int).toNat]? = some c := by rw [hcl]; rfl
  have hcm : decide ((c.toNat : Int) = 45) = decide (q.num < 0) := by
    rw [eq45, ← hN, hcl]
    rfl
  obtain ⟨m, hm⟩ : ∃ m, decide (q.num < 0) = m := ⟨_, rfl⟩
  rw [hm] at hcm hN ⊢
  refine ⟨c, Int.le_refl 0, hc0, ?_⟩
  refine And.intro (fun h => ?_) (fun h => ?_)
  have h' : m = true := hcm.symm.trans h
  refine And.intro (show 0 ≤ (1 : Int) ∧ (1 : Int) ≤ (a.length : Int) from ⟨by decide, by rw [hcl]; simp only [List.length_cons]; omega⟩) ?_
  have eA : (a.take a.length).drop (1 : Int).toNat = S := by
    rw [List.take_length, ← hS, rAbs, hN, h']
    rfl
  rotate_left 1
  have h' : m = false := hcm.symm.trans h
  have eA : a = S := by
    rw [← hS, rAbs, hN, h']
  all_goals
    refine loop_wp tys_ok rfl (fun (i : Nat) => [(5, .v .s S), (6, .v .b m), (16, .v (.i .i64) (S.length : Int)), (17, .v (.i .i64) (i : Int))]) (fun _ => [])
      (fun i => i ≤ S.length ∧ idxA (S.drop i) 47 i = idxA S 47 0) (fun i => S.length - i) ?_ 0 ?_ ?_
    · rintro i ⟨hi, he⟩
      refine And.intro (fun h => ?_) (fun h => ?_)
      · have hlt : i < S.length := by have h' : (i : Int) < (S.length : Int) := of_decide_eq_true h; omega
        obtain ⟨x, hx⟩ : ∃ x, S[i] = x := ⟨_, rfl⟩
        have gx : S[(i : Int).toNat]? = some x := by rw [Int.toNat_natCast, List.getElem?_eq_getElem hlt, hx]
        rw [List.drop_eq_getElem_cons hlt, hx, idxA, ← eq47] at he
        refine ⟨x, Int.natCast_nonneg i, gx, ?_⟩
        have wi : IntKind.i64.wrap ((i : Int) + 1) = ((i + 1 : Nat) : Int) := wrap64 (by omega) (by omega)
        refine And.intro (fun h2 => ?_) (fun h2 => ?_)
        · have h2' : decide ((x.toNat : Int) = 47) = true := h2
          rw [h2'] at he
          simp only at he
          have hC := cutS_at he.symm
          rw [hC] at hcut
          refine And.intro (show 0 ≤ (i : Int) ∧ (i : Int) ≤ (S.length : Int) by omega) ?_
          refine And.intro (show 0 ≤ IntKind.i64.wrap ((i : Int) + 1) ∧ IntKind.i64.wrap ((i : Int) + 1) ≤ (S.length : Int) by rw [wi]; omega) ?_
          cases hd : decide (q.den = 1) with
          | true => rw [hd] at hcut; simp at hcut
          | false =>
            rw [hd] at hcut
            simp only [Prod.mk.injEq] at hcut
            have e1 : List.drop 0 (S.take (i : Int).toNat) = decDigits q.num.natAbs := hcut.1
            have e2 : List.drop (IntKind.i64.wrap ((i : Int) + 1)).toNat (S.take S.length) = decDigits q.den := by
              rw [wi, Int.toNat_natCast, List.take_length]
              exact hcut.2.1
            exact part_eq3 m e1 e2
        · have h2' : decide ((x.toNat : Int) = 47) = false := h2
          rw [h2'] at he
          refine ⟨i + 1, ⟨hlt, he⟩, by show S.length - (i + 1) < S.length - i; omega, ?_⟩
          refine ent_of rfl rfl ?_ ?_
          · exact ⟨rfl, rfl, rfl, wi.symm, trivial⟩
          · exact trivial
      · have hi2 : i = S.length := by have h' : ¬ (i : Int) < (S.length : Int) := of_decide_eq_false h; omega
        rw [List.drop_of_length_le (by omega)] at he
        have hC := cutS_none (s := S) he.symm
        rw [hC] at hcut
        cases hd : decide (q.den = 1) with
        | false => rw [hd] at hcut; simp at hcut
        | true =>
          rw [hd] at hcut
          simp only [Prod.mk.injEq] at hcut
          have e1 : S = decDigits q.num.natAbs := hcut.1
          have e2 : [49] = decDigits q.den := by
            rw [of_decide_eq_true hd, decDigits_one (by decide)]
            rfl
          exact part_eq3 m e1 e2
    · exact ⟨Nat.zero_le _, rfl⟩
    · refine ent_of rfl rfl ?_ ?_
      · exact ⟨eA.symm, hcm.symm, by rw [← eA]; rfl, rfl, trivial⟩
      · exact trivial
end Go.Proofs.YtnfgnkbgajhhbaaGreatDoor