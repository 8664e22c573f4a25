/-
 nat.Check, nat.two, nat.text.
-/
import Derived.Test.YtnfgnkbgajhhbaaGreatDoorQ2
set_option linter.constructorNameAsVariable false
set_option linter.unusedSimpArgs false
set_option linter.unusedVariables false
namespace Go.Proofs.YtnfgnkbgajhhbaaGreatDoor
open Go.Am Go.Tx Dv Go.Lib
set_option maxRecDepth 100000
theorem Zrw {s : List UInt8} {i : Nat} (h : i < s.length) : (ZeE s)[i]? = some ((s[i].toNat : Nat) : Int) := by
 simp [ZeE, List.getElem?_eq_getElem h]
set_option maxHeartbeats 8000000 in
theorem Zkz (s : List UInt8) (hl : s.length ≤ 9223372036854775806) : PureOK Tryz.prog Zat 106 [.v .s s] (fun V => V = .v (.i .i64) (Zaz s)) := by
 refine Zai Zaj Tryz.func106 ?_
 have hbl : (ZeE s).length = s.length := by simp [ZeE]
 refine Zav Zaj rfl (fun (i : Nat) => [(0, .v .s s), (6, .v (.l (.i .u8)) (ZeE s)), (7, .v (.i .i64) (s.length : Int)), (8, .v (.i .i64) (i : Int))]) (fun _ => [])
  (fun i => i ≤ s.length ∧ Dg (s.take i)) (fun i => s.length - i) ?_ 0 ?_ ?_
 ·rintro i ⟨hi, hd⟩
  refine And.intro (fun h => ?_) (fun h => ?_)
  ·have hlt : i < s.length := by have h' : (i : Int) < (s.length : Int) := of_decide_eq_true h; omega
   obtain ⟨c, hc⟩ : ∃ c, s[i] = c := ⟨_, rfl⟩
   have hx : (ZeE s)[(i : Int).toNat]? = some ((c.toNat : Nat) : Int) := by rw [Int.toNat_natCast, Zrw hlt, hc]
   refine ⟨((c.toNat : Nat) : Int), Int.natCast_nonneg i, hx, ?_⟩
   have bad : ¬ (48 ≤ c.toNat ∧ c.toNat ≤ 57) → Zaz s = 5 := by
    intro h
    have : cnB s = false := by
     cases hb : cnB s with
     | false => rfl
     | true => exact absurd (hc ▸ (Zjw.1 hb).2.1 _ (List.getElem_mem hlt)) h
    simp only [Zaz, this]
   refine Zab (Zaa rfl ?_)
   iterate 3 refine Zah rfl (fun _ => rfl) rfl rfl ?_
   cases h1 : decide (((c.toNat : Nat) : Int) < 48) with
   | true =>
    have h1' : ((c.toNat : Nat) : Int) < 48 := of_decide_eq_true h1
    iterate 2 refine Zae rfl rfl rfl rfl rfl rfl ?_
    refine ZaB rfl rfl rfl rfl rfl rfl rfl ?_
    refine Zal ?_
    refine And.intro (fun _ => ?_) (fun h' => nomatch h')
    exact congrArg (SV.v (.i .i64)) (bad (by omega)).symm
   | false =>
    have h1' : ¬ ((c.toNat : Nat) : Int) < 48 := of_decide_eq_false h1
    iterate 2 refine Zag rfl rfl rfl rfl (fun _ => rfl) rfl rfl ?_
    refine Zax rfl rfl rfl rfl rfl rfl rfl ?_
    refine Zal ?_
    refine And.intro (fun h2 => ?_) (fun h2 => ?_)
    ·have h2' : (57 : Int) < ((c.toNat : Nat) : Int) := of_decide_eq_true h2
     exact congrArg (SV.v (.i .i64)) (bad (by omega)).symm
    ·have h2' : ¬ (57 : Int) < ((c.toNat : Nat) : Int) := of_decide_eq_false h2
     have wi : IntKind.i64.wrap ((i : Int) + 1) = ((i + 1 : Nat) : Int) := Zam (by omega) (by omega)
     refine ⟨i + 1, ⟨hlt, ?_⟩, by show s.length - (i + 1) < s.length - i; omega, ?_⟩
     ·rw [List.take_succ_eq_append_getElem hlt]
      refine hd.app ?_
      intro x hx
      rw [List.mem_singleton.1 hx, hc]; omega
     ·refine Zan rfl rfl ?_ ?_
      ·exact ⟨rfl, rfl, rfl, wi.symm, trivial⟩
      ·exact trivial
  ·have he : i = s.length := by have h' : ¬ (i : Int) < (s.length : Int) := of_decide_eq_false h; omega
   subst he
   rw [List.take_length] at hd
   have hdB := Zj1.2 hd
   refine Zab (Zad rfl (Zab (Zaa rfl ?_)))
   have large : cnB s = true → (2000 : Int) < (s.length : Int) → Zaz s = 2 := fun h1 h2 => by
    have hb : Nat.ble s.length 2000 = false := by
     cases hb : Nat.ble s.length 2000 with
     | false => rfl
     | true => have := Nat.le_of_ble_eq_true hb; omega
    simp only [Zaz, h1, hb]
   have fine : cnB s = true → ¬ (2000 : Int) < (s.length : Int) → Zaz s = 0 := fun h1 h2 => by
    simp only [Zaz, h1, Nat.ble_eq_true_of_le (show s.length ≤ 2000 by omega)]
   have bad : cnB s = false → Zaz s = 5 := fun h => by simp only [Zaz, h]
   iterate 3 refine Zah rfl (fun _ => rfl) rfl rfl ?_
   cases h1 : (s == ([] : List UInt8)) with
   | true =>
    have h1' : s = [] := by simpa using h1
    iterate 4 refine Zae rfl rfl rfl rfl rfl rfl ?_
    iterate 3 refine Zaw rfl rfl rfl rfl rfl ?_
    refine Zae rfl rfl rfl rfl rfl rfl ?_
    refine ZaB rfl rfl rfl rfl rfl rfl rfl ?_
    refine Zah rfl (fun _ => rfl) rfl rfl ?_
    refine Zal ?_
    refine And.intro (fun _ => ?_) (fun h' => nomatch h')
    exact congrArg (SV.v (.i .i64)) (bad (by subst h1'; rfl)).symm
   | false =>
    have h1' : s ≠ [] := by simpa using h1
    have hem : s.isEmpty = false := by simpa using h1'
    iterate 3 refine Zag rfl rfl rfl rfl (fun _ => rfl) rfl rfl ?_
    refine Zag rfl rfl rfl rfl (fun _ => rfl) rfl rfl ?_
    cases h2 : decide ((1 : Int) < (s.length : Int)) with
    | true =>
     have h2' : (1 : Int) < (s.length : Int) := of_decide_eq_true h2
     obtain ⟨c, r, hs⟩ : ∃ c r, s = c :: r := by
      cases s with
      | nil => exact absurd rfl h1'
      | cons c r => exact ⟨c, r, rfl⟩
     have hd1 : decide (1 < s.length) = true := decide_eq_true (by omega)
     have hcb : cnB s = !decide (((c.toNat : Nat) : Int) = 48) := by
      simp only [cnB, hdB, hem, hd1, Bool.true_and, Bool.not_false]
      congr 1
      rw [hs, List.head?_cons]
      by_cases h : c = 48
      ·subst h; rfl
      ·have h3 : ¬ ((c.toNat : Nat) : Int) = 48 := fun h4 => h (UInt8.toNat_inj.1 (by show c.toNat = 48; omega))
       rw [decide_eq_false h3]
       simp [h]
     refine Zag rfl rfl rfl rfl (fun _ => rfl) rfl rfl ?_
     refine Zfn (x := c) rfl rfl rfl rfl (fun _ => rfl) (Int.le_refl 0) (by rw [hs]; rfl) rfl rfl ?_
     refine Zag rfl rfl rfl rfl (fun _ => rfl) rfl rfl ?_
     refine Zb0 rfl rfl rfl rfl rfl rfl rfl rfl rfl rfl ?_
     refine Zax rfl rfl rfl rfl rfl rfl rfl ?_
     refine Zah rfl (fun _ => rfl) rfl rfl ?_
     refine Zal ?_
     refine And.intro (fun h3 => ?_) (fun h3 => ?_)
     ·have h3' : decide (((c.toNat : Nat) : Int) = 48) = true := h3
      exact congrArg (SV.v (.i .i64)) (bad (by rw [hcb, h3']; rfl)).symm
     ·have h3' : decide (((c.toNat : Nat) : Int) = 48) = false := h3
      refine And.intro (fun h4 => ?_) (fun h4 => ?_)
      ·have h4' : (2000 : Int) < (s.length : Int) := of_decide_eq_true h4
       exact congrArg (SV.v (.i .i64)) (large (by rw [hcb, h3']; rfl) h4').symm
      ·have h4' : ¬ (2000 : Int) < (s.length : Int) := of_decide_eq_false h4
       exact congrArg (SV.v (.i .i64)) (fine (by rw [hcb, h3']; rfl) h4').symm
    | false =>
     have h2' : ¬ (1 : Int) < (s.length : Int) := of_decide_eq_false h2
     have hd1 : decide (1 < s.length) = false := decide_eq_false (by omega)
     have hcb : cnB s = true := by simp only [cnB, hdB, hem, hd1, Bool.true_and, Bool.false_and, Bool.not_false, Bool.and_self]
     iterate 3 refine Zae rfl rfl rfl rfl rfl rfl ?_
     refine Zbz rfl rfl rfl rfl rfl rfl rfl rfl rfl rfl ?_
     refine Zax rfl rfl rfl rfl rfl rfl rfl ?_
     refine Zah rfl (fun _ => rfl) rfl rfl ?_
     refine Zal ?_
     refine And.intro (fun h' => nomatch h') (fun _ => ?_)
     refine And.intro (fun h4 => ?_) (fun h4 => ?_)
     ·have h4' : (2000 : Int) < (s.length : Int) := of_decide_eq_true h4
      omega
     ·exact congrArg (SV.v (.i .i64)) (fine hcb (by omega)).symm
 ·exact ⟨Nat.zero_le _, fun c hc => by simp at hc⟩
 ·refine Zan rfl rfl ?_ ?_
  ·exact ⟨rfl, rfl, by rw [← hbl]; rfl, rfl, trivial⟩
  ·exact trivial
def Zwb (a b : List UInt8) : SV := match decide (Ziy a b = 0) with
 | true => .tup [IS (dec a : Nat), IS (dec b : Nat), .v (.i .i64) (0 : Int)]
 | false => .tup [.agg [.v .b false, .nils], .agg [.v .b false, .nils], .v (.i .i64) (Ziy a b)]
set_option maxHeartbeats 8000000 in
theorem ZxL (a b : List UInt8) (hla : a.length ≤ 9223372036854775806) (hlb : b.length ≤ 9223372036854775806) : PureOK Tryz.prog Zat 133 [.v .s a, .v .s b] (fun V => V = Zwb a b) := by
 refine Zai Zaj Tryz.func133 ?_
 refine Zav Zaj rfl (fun (i : Nat) => [(0, .v .s a), (1, .v .s b), (4, .ptr 0 0 0), (5, .ptr 1 0 0), (12, .agg [.v .s a, .v .s b]), (13, .v (.i .i64) (i : Int))]) (fun _ => [.cell [.v .b false, .nils] true, .cell [.v .b false, .nils] true])
  (fun i => i ≤ 2 ∧ (1 ≤ i → Zaz a = 0) ∧ (2 ≤ i → Zaz b = 0)) (fun i => 2 - i) ?_ 0 ?_ ?_
 ·rintro i ⟨hi, h1, h2⟩
  rcases (show i = 0 ∨ i = 1 ∨ i = 2 by omega) with rfl | rfl | rfl
  ·refine And.intro (fun _ => ?_) (fun h => nomatch h)
   refine And.intro ⟨by decide, by decide⟩ ?_
   refine (Zkz a hla).mono ?_
   rintro _ rfl
   refine And.intro (fun h => ?_) (fun h => ?_)
   ·have h' : (!decide (Zaz a = 0)) = true := h
    have he : decide (Zaz a = 0) = false := by cases hd : decide (Zaz a = 0) <;> simp [hd] at h' ⊢
    have hE : Ziy a b = Zaz a := by simp only [Ziy, he]
    refine ⟨rfl, rfl, rfl, rfl, ?_⟩
    simp only [Zwb, hE, he]
    rfl
   ·have h' : (!decide (Zaz a = 0)) = false := h
    have he : Zaz a = 0 := by simpa using h'
    refine ⟨1, ⟨by decide, fun _ => he, fun h => absurd h (by decide)⟩, by decide, ?_⟩
    refine Zan rfl rfl ?_ ?_
    ·exact ⟨rfl, rfl, ⟨rfl, rfl⟩, ⟨rfl, rfl⟩, ⟨rfl, rfl, trivial⟩, rfl, trivial⟩
    ·exact ⟨⟨⟨rfl, trivial, trivial⟩, fun _ => rfl⟩, ⟨⟨rfl, trivial, trivial⟩, fun _ => rfl⟩, trivial⟩
  ·have ha := h1 (by decide)
   refine And.intro (fun _ => ?_) (fun h => nomatch h)
   refine And.intro ⟨by decide, by decide⟩ ?_
   refine (Zkz b hlb).mono ?_
   rintro _ rfl
   have hE : Ziy a b = Zaz b := by simp only [Ziy, ha, decide_true]
   refine And.intro (fun h => ?_) (fun h => ?_)
   ·have h' : (!decide (Zaz b = 0)) = true := h
    have he : decide (Zaz b = 0) = false := by cases hd : decide (Zaz b = 0) <;> simp [hd] at h' ⊢
    refine ⟨rfl, rfl, rfl, rfl, ?_⟩
    simp only [Zwb, hE, he]
    rfl
   ·have h' : (!decide (Zaz b = 0)) = false := h
    have he : Zaz b = 0 := by simpa using h'
    refine ⟨2, ⟨by decide, fun _ => ha, fun _ => he⟩, by decide, ?_⟩
    refine Zan rfl rfl ?_ ?_
    ·exact ⟨rfl, rfl, ⟨rfl, rfl⟩, ⟨rfl, rfl⟩, ⟨rfl, rfl, trivial⟩, rfl, trivial⟩
    ·exact ⟨⟨⟨rfl, trivial, trivial⟩, fun _ => rfl⟩, ⟨⟨rfl, trivial, trivial⟩, fun _ => rfl⟩, trivial⟩
  ·have ha := ZaY (h1 (by decide))
   have hb := ZaY (h2 (by decide))
   have hE : Ziy a b = 0 := by simp only [Ziy, h1 (by decide), decide_true, h2 (by decide)]
   refine And.intro (fun h => nomatch h) (fun _ => ?_)
   refine (ZqO false a ha.1.2.1 (by omega)).mono ?_
   rintro _ rfl
   refine (ZqO false b hb.1.2.1 (by omega)).mono ?_
   rintro _ rfl
   refine ⟨rfl, rfl, rfl, rfl, ?_⟩
   simp only [Zwb, hE, decide_true]
   rfl
 ·exact ⟨by decide, fun h => absurd h (by decide), fun h => absurd h (by decide)⟩
 ·refine Zan rfl rfl ?_ ?_
  ·exact ⟨rfl, rfl, ⟨rfl, rfl⟩, ⟨rfl, rfl⟩, ⟨rfl, rfl, trivial⟩, rfl, trivial⟩
  ·exact ⟨⟨⟨rfl, trivial, trivial⟩, fun _ => rfl⟩, ⟨⟨rfl, trivial, trivial⟩, fun _ => rfl⟩, trivial⟩
set_option maxHeartbeats 4000000 in
theorem ZwX (n : Nat) : PureOK Tryz.prog Zat 134 [IS (n : Int)] (fun V => V = .tup [.v .s (Zsq n).1, .v (.i .i64) (Zsq n).2]) := by
 refine Zai Zaj Tryz.func134 ?_
 refine And.intro rfl ?_
 refine (ZnL n).mono ?_
 rintro _ rfl
 obtain ⟨h1, h2⟩ := Zrj n
 rw [Int.natAbs_natCast] at *
 refine And.intro (fun h => ?_) (fun h => ?_)
 ·have h' : (!Zck (wOf n)) = true := h
  have hb : Nat.ble (decDigits n).length 2000 = false := by rw [← h1]; cases ht : Zck (wOf n) <;> simp [ht] at h' ⊢
  simp only [Zsq, hb]
  rfl
 ·have h' : (!Zck (wOf n)) = false := h
  have hb : Nat.ble (decDigits n).length 2000 = true := by rw [← h1]; cases ht : Zck (wOf n) <;> simp [ht] at h' ⊢
  simp only [Zsq, hb]
  have h3 := h2 hb (decide ((n : Int) < 0))
  rw [decide_eq_false (by omega)] at h3
  have h4 : ZcJ false (wOf n) = decDigits n := by
   rw [h3]
   cases decide (n = 0) <;> rfl
  show SV.tup [.v .s (ZcJ (decide ((n : Int) < 0)) (wOf n)), .v (.i .i64) (0 : Int)] = _
  rw [decide_eq_false (by omega), h4]
end Go.Proofs.YtnfgnkbgajhhbaaGreatDoor
/-
 nat.Gcd, for a seat without the other functions of package nat.
-/
namespace Go.Proofs.YtnfgnkbgajhhbaaGreatDoor
open Go.Am Go.Tx Dv Go.Lib
set_option maxRecDepth 100000
abbrev rs (x : List UInt8 × Int) : SV := .tup [.v .s x.1, .v (.i .i64) x.2]
def ZvI (a b : List UInt8) (x : List UInt8 × Int) : List UInt8 × Int := match decide (Ziy a b = 0) with
 | true => x
 | false => ([], Ziy a b)
theorem ZpO (a b : List UInt8) (hla : a.length ≤ 9223372036854775806) (hlb : b.length ≤ 9223372036854775806) : (Ziy a b = 0 ∧ PureOK Tryz.prog Zat 133 [.v .s a, .v .s b] (fun V => V = .tup [IS (dec a : Nat), IS (dec b : Nat), .v (.i .i64) (0 : Int)])) ∨
 (Ziy a b ≠ 0 ∧ PureOK Tryz.prog Zat 133 [.v .s a, .v .s b] (fun V => V = .tup [.agg [.v .b false, .nils], .agg [.v .b false, .nils], .v (.i .i64) (Ziy a b)])) := by
 have h := ZxL a b hla hlb
 cases hd : decide (Ziy a b = 0) with
 | true =>
  refine .inl ⟨of_decide_eq_true hd, h.mono ?_⟩
  rintro V rfl
  simp only [Zwb, hd]
 | false =>
  refine .inr ⟨of_decide_eq_false hd, h.mono ?_⟩
  rintro V rfl
  simp only [Zwb, hd]
theorem Zt8 {a : List UInt8} (h : Zaz a = 0) : ln (dec a : Nat) ≤ 2000 := by
 rw [ln, Int.natAbs_natCast]
 exact Nat.le_trans (Zt5 (ZaY h).1.2.1) (ZaY h).2
theorem RxoorT201lt {n k m:Nat} (h:n<10^k) (hk:k≤m):n<10^m:=Nat.lt_of_lt_of_le h (Nat.pow_le_pow_right (by decide) hk)
theorem Zkq {a : List UInt8} (h : Zaz a = 0) : dec a < 10 ^ 2000 := RxoorT201lt (m:=2000) (Zbo (ZaY h).1.2.1) (ZaY h).2
set_option maxHeartbeats 4000000 in
theorem ZsE (a b : List UInt8) (hla : a.length ≤ 9223372036854775806) (hlb : b.length ≤ 9223372036854775806) : PureOK Tryz.prog Zat 107 [.v .s a, .v .s b] (fun V => V = rs (ZvI a b (Zsq (Nat.gcd (dec a) (dec b))))) := by
 refine Zai Zaj Tryz.func107 ?_
 rcases ZpO a b hla hlb with ⟨hE, h2⟩ | ⟨hE, h2⟩
 ·refine h2.mono ?_
  rintro _ rfl
  obtain ⟨ea, eb⟩ := ZpR hE
  have la := Zt8 ea
  have lb := Zt8 eb
  have da := Zkq ea
  have db := Zkq eb
  have hd : decide (Ziy a b = 0) = true := decide_eq_true hE
  refine And.intro rfl ?_
  refine And.intro rfl ?_
  refine And.intro (fun h => absurd h (by decide)) (fun _ => ?_)
  refine And.intro rfl ?_
  refine And.intro rfl ?_
  refine (Zwn (dec a : Nat) (dec b : Nat) (by omega) (by omega)).mono ?_
  rintro _ rfl
  have ht := ZwX (Nat.gcd (dec a) (dec b))
  refine ht.mono ?_
  rintro _ rfl
  simp only [ZvI, hd]
  rfl
 ·refine h2.mono ?_
  rintro _ rfl
  have hd : decide (Ziy a b = 0) = false := decide_eq_false hE
  refine And.intro rfl ?_
  refine And.intro rfl ?_
  have hn : (!decide (Ziy a b = 0)) = true := by rw [hd]; rfl
  refine And.intro (fun _ => ?_) (fun h => (nf hn h).elim)
  show _ = rs (ZvI a b (Zsq (Nat.gcd (dec a) (dec b))))
  simp only [ZvI, hd]
end Go.Proofs.YtnfgnkbgajhhbaaGreatDoor
