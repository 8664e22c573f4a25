/-
 large.Ratio: a fraction in lowest terms.
-/
import Derived.Test.YtnfgnkbgajhhbaaGreatDoorDq
set_option linter.constructorNameAsVariable false
set_option linter.unusedSimpArgs false
set_option linter.unusedVariables false
namespace Go.Proofs.YtnfgnkbgajhhbaaGreatDoor
open Go.Am Go.Tx Dv Go.Lib
set_option maxRecDepth 100000
abbrev QR (q : Rat) : SV := QS q.num (q.den : Int)
theorem Zor {n : Nat} (h : ((wOf n).length : Int) = 1) {x : Int} (hx : (wOf n)[(0 : Int).toNat]? = some x) (h1 : x = 1) : n = 1 := by
 have hv := ZbR n
 obtain ⟨w, hw⟩ : ∃ w, wOf n = w := ⟨_, rfl⟩
 rw [hw] at h hx hv
 match w, h, hx, hv with
 | [y], _, hx, hv =>
  have hy : y = x := by simpa using hx
  rw [hy, h1] at hv
  simp only [wv] at hv
  omega
 | [], h, _, _ => simp at h
 | _ :: _ :: _, h, _, _ => simp only [List.length_cons] at h; omega
theorem Zde {n d : Int} (hd : 0 < d) : (Rat.divInt n d).num = n / (Int.gcd n d : Int) ∧ ((Rat.divInt n d).den : Int) = d / (Int.gcd n d : Int) := by
 rw [Rat.num_divInt, Rat.den_divInt, Int.sign_eq_one_of_pos hd, if_neg (by omega), Int.one_mul, Int.gcd_comm d n, Int.natCast_ediv, Int.natAbs_of_nonneg (by omega)]
 exact ⟨rfl, rfl⟩
theorem Zpi (n : Int) {d : Int} (h : d.natAbs = 1) (hd : 0 < d) : QR (Rat.divInt n d) = QS n d := by
 have : d = 1 := by omega
 subst this
 obtain ⟨h1, h2⟩ := Zde (n := n) (d := 1) (by decide)
 rw [Int.gcd_one, Int.natCast_one, Int.ediv_one] at h1 h2
 show QS _ _ = _
 rw [h1, h2]
theorem Zpz (n : Int) {d : Int} (h : (Int.gcd n d : Int).natAbs = 1) (hd : 0 < d) : QR (Rat.divInt n d) = QS n d := by
 obtain ⟨h1, h2⟩ := Zde (n := n) hd
 have hg : (Int.gcd n d : Int) = 1 := by omega
 rw [hg, Int.ediv_one] at h1 h2
 show QS _ _ = _
 rw [h1, h2]
theorem Zre {n g : Int} (hg : 0 < g) (hdv : g ∣ n) : (match decide (n < 0) with | true => decide ((0 : Int) < ((wOf ((n.natAbs : Int) / g).natAbs).length : Int)) | false => false) = decide (n / g < 0) ∧ ((n.natAbs : Int) / g).natAbs = (n / g).natAbs := by
 obtain ⟨k, rfl⟩ := hdv
 rw [Int.mul_ediv_cancel_left _ (by omega), Int.natAbs_mul, Int.natCast_mul, Int.natAbs_of_nonneg (by omega), Int.mul_ediv_cancel_left _ (by omega), Int.natAbs_natCast]
 refine ⟨?_, rfl⟩
 by_cases hk : k < 0
 ·rw [decide_eq_true (Int.mul_neg_of_pos_of_neg hg hk), decide_eq_true hk]
  refine decide_eq_true ?_
  have : wOf k.natAbs ≠ [] := by rw [ne_eq, ZdW]; omega
  have := List.length_pos_iff.2 this
  omega
 ·rw [decide_eq_false (by have := Int.mul_nonneg (a := g) (b := k) (by omega) (by omega); omega), decide_eq_false hk]
def Zx5 (m : Bool) (n d : Int) (z : List SV) : List SM := [.cell [.v .b m, ZaW (wOf n.natAbs)] true, .cell [.v .b (decide (d < 0)), ZaW (wOf d.natAbs)] true, .cell z true]
def Zxx (m : Bool) (n d g : Int) (z : List SV) : List SM := [.cell [.v .b m, ZaW (wOf n.natAbs)] true, .cell [.v .b (decide (d < 0)), ZaW (wOf d.natAbs)] true, .cell z true, .cell [.v .b (decide (g < 0)), ZaW (wOf g.natAbs)] true]
def Zv5 : List SV := [.v .b false, .nils, .v .b false, .nils]
set_option maxHeartbeats 8000000 in
theorem Zp3 (n d : Int) (hd0 : d ≠ 0) (hln : ln n ≤ 700000) (hld : ln d ≤ 700000) : PureOK Tryz.prog Zat 101 [IS n, IS d] (fun V => V = QR (Rat.divInt n d)) := by
 refine Zai Zaj Tryz.func101 ?_
 refine And.intro rfl ?_
 refine And.intro (fun h => ?_) (fun h => ?_)
 have hneg : d < 0 := of_decide_eq_true h
 obtain ⟨n', hn'⟩ : ∃ n', -n = n' := ⟨_, rfl⟩
 obtain ⟨d', hd'⟩ : ∃ d', -d = d' := ⟨_, rfl⟩
 have hN := Zvd n (by omega)
 have hD := Zvd d (by omega)
 rw [hn'] at hN
 rw [hd'] at hD
 have hq : Rat.divInt n d = Rat.divInt n' d' := by rw [← hn', ← hd', Rat.neg_divInt_neg]
 have hd : 0 < d' := by omega
 have hln' : ln n' ≤ 700000 := by rw [← hn', ZqD]; exact hln
 have hld' : ln d' ≤ 700000 := by rw [← hd', ZqD]; exact hld
 refine And.intro rfl ?_
 refine hN.mono ?_
 rintro _ rfl
 refine And.intro rfl ?_
 refine hD.mono ?_
 rintro _ rfl
 refine And.intro rfl ?_
 refine And.intro rfl ?_
 refine Zlq (Zx5 (decide (n' < 0)) n' d' Zv5) rfl ?_
 rotate_left 1
 obtain ⟨n', hn'⟩ : ∃ n', n' = n := ⟨_, rfl⟩
 obtain ⟨d', hd'⟩ : ∃ d', d' = d := ⟨_, rfl⟩
 have hq : Rat.divInt n d = Rat.divInt n' d' := by rw [hn', hd']
 have hd : 0 < d' := by
  have := of_decide_eq_false h
  omega
 have hln' : ln n' ≤ 700000 := by rw [hn']; exact hln
 have hld' : ln d' ≤ 700000 := by rw [hd']; exact hld
 subst hn' hd'
 refine Zlq (Zx5 (decide (n' < 0)) n' d' Zv5) rfl ?_
 all_goals
  rw [hq]
  have hG := Zwn n' d' hln' hld'
  obtain ⟨g, hg⟩ : ∃ g : Int, (Int.gcd n' d' : Int) = g := ⟨_, rfl⟩
  have hg0 : 0 < g := by
   have : 0 < Int.gcd n' d' := Int.gcd_pos_of_ne_zero_right _ (by omega)
   omega
  have hlg : ln g ≤ 700000 := by
   refine Nat.le_trans (Zil (b := d') ?_) hld'
   have : Int.gcd n' d' ∣ d'.natAbs := Int.gcd_dvd_natAbs_right _ _
   have := Nat.le_of_dvd (by omega) this
   omega
  have hdn : g ∣ n' := by rw [← hg]; exact Int.gcd_dvd_left _ _
  obtain ⟨q1, q2⟩ := Zde (n := n') hd
  have hone := Zpz n' (d := d')
  rw [hg] at hG q1 q2 hone
  have hA := ZnZ (n'.natAbs : Int) g hg0 (by rw [ln, Int.natAbs_natCast]; exact hln') hlg
  rw [Zoo] at hA
  have hB := ZnZ d' g hg0 hld' hlg
  obtain ⟨s1, s2⟩ := Zre (n := n') hg0 hdn
  obtain ⟨A, eA⟩ : ∃ A, (n'.natAbs : Int) / g = A := ⟨_, rfl⟩
  obtain ⟨Ar, eAr⟩ : ∃ A, (n'.natAbs : Int) % g = A := ⟨_, rfl⟩
  obtain ⟨B, eB⟩ : ∃ A, d' / g = A := ⟨_, rfl⟩
  obtain ⟨Br, eBr⟩ : ∃ A, d' % g = A := ⟨_, rfl⟩
  rw [eA, eAr] at hA
  rw [eB, eBr] at hB
  rw [eA] at s1 s2
  rw [eB] at q2
  first | refine Zab (Zaa rfl ?_) | refine Zab (Zab (Zaa rfl ?_))
  refine Zah rfl (fun _ => rfl) rfl rfl ?_
  refine ZwQ rfl (fun _ => rfl) rfl rfl rfl ?_
  iterate 3 refine Zah rfl (fun _ => rfl) rfl rfl ?_
  refine @Classical.byCases (decide (((wOf d'.natAbs).length : Int) = 1) = true) _ (fun hl => ?_) (fun hl => ?_)
  obtain ⟨y, hy⟩ : ∃ y, (wOf d'.natAbs)[(0 : Int).toNat]? = some y := ⟨_, List.getElem?_eq_getElem (by have := of_decide_eq_true hl; show 0 < _; omega)⟩
  refine Zag rfl rfl rfl hl (fun _ => rfl) rfl rfl ?_
  refine Zh6 rfl rfl rfl hl (fun _ => rfl) rfl rfl rfl ?_
  refine Zfn rfl rfl rfl hl (fun _ => rfl) (Int.le_refl 0) hy rfl rfl ?_
  iterate 2 refine Zag rfl rfl rfl hl (fun _ => rfl) rfl rfl ?_
  refine ZaB rfl rfl rfl hl rfl rfl rfl ?_
  refine Zal ?_
  refine And.intro (fun h => ?_) (fun _ => ?_)
  ·have e := Zpi n' (Zor (of_decide_eq_true hl) hy (of_decide_eq_true h)) hd
   refine And.intro rfl ?_
   refine And.intro rfl ?_
   refine And.intro rfl ?_
   refine And.intro rfl ?_
   rw [e]
   rfl
  rotate_left 1
  have hl : decide (((wOf d'.natAbs).length : Int) = 1) = false := by simpa using hl
  iterate 5 refine Zae rfl rfl rfl hl rfl rfl ?_
  refine Zax rfl rfl rfl hl rfl rfl rfl ?_
  refine Zal ?_
  refine And.intro (fun h => nomatch h) (fun _ => ?_)
  all_goals
   clear hl
   refine And.intro rfl ?_
   refine And.intro rfl ?_
   refine hG.mono ?_
   rintro _ rfl
   refine And.intro rfl ?_
   refine Zlq (Zxx (decide (n' < 0)) n' d' g Zv5) rfl ?_
   first | refine Zab (Zaa rfl ?_) | refine Zab (Zab (Zaa rfl ?_))
   refine Zah rfl (fun _ => rfl) rfl rfl ?_
   refine ZwQ rfl (fun _ => rfl) rfl rfl rfl ?_
   iterate 3 refine Zah rfl (fun _ => rfl) rfl rfl ?_
   refine @Classical.byCases (decide (((wOf g.natAbs).length : Int) = 1) = true) _ (fun hl => ?_) (fun hl => ?_)
   obtain ⟨y, hy⟩ : ∃ y, (wOf g.natAbs)[(0 : Int).toNat]? = some y := ⟨_, List.getElem?_eq_getElem (by have := of_decide_eq_true hl; show 0 < _; omega)⟩
   refine Zag rfl rfl rfl hl (fun _ => rfl) rfl rfl ?_
   refine Zh6 rfl rfl rfl hl (fun _ => rfl) rfl rfl rfl ?_
   refine Zfn rfl rfl rfl hl (fun _ => rfl) (Int.le_refl 0) hy rfl rfl ?_
   iterate 2 refine Zag rfl rfl rfl hl (fun _ => rfl) rfl rfl ?_
   refine ZaB rfl rfl rfl hl rfl rfl rfl ?_
   refine Zal ?_
   refine And.intro (fun h => ?_) (fun _ => ?_)
   ·have e := hone (Zor (of_decide_eq_true hl) hy (of_decide_eq_true h)) hd
    refine And.intro rfl ?_
    refine And.intro rfl ?_
    refine And.intro rfl ?_
    refine And.intro rfl ?_
    rw [e]
    rfl
   rotate_left 1
   have hl : decide (((wOf g.natAbs).length : Int) = 1) = false := by simpa using hl
   iterate 5 refine Zae rfl rfl rfl hl rfl rfl ?_
   refine Zax rfl rfl rfl hl rfl rfl rfl ?_
   refine Zal ?_
   refine And.intro (fun h => nomatch h) (fun _ => ?_)
   all_goals
    clear hl
    refine And.intro rfl ?_
    refine And.intro rfl ?_
    refine Zlq (Zxx false n' d' g Zv5) rfl ?_
    refine And.intro rfl ?_
    refine And.intro rfl ?_
    refine hA.mono ?_
    rintro _ rfl
    refine And.intro rfl ?_
    refine Zlq (Zxx (decide (A < 0)) A d' g Zv5) rfl ?_
    refine And.intro rfl ?_
    refine And.intro rfl ?_
    refine hB.mono ?_
    rintro _ rfl
    refine And.intro rfl ?_
    refine Zlq (Zxx (decide (A < 0)) A B g Zv5) rfl ?_
    first | refine Zab (Zaa rfl ?_) | refine Zab (Zab (Zaa rfl ?_))
    iterate 2 refine Zah rfl (fun _ => rfl) rfl rfl ?_
    obtain ⟨m, hm⟩ : ∃ m, decide (n' < 0) = m := ⟨_, rfl⟩
    rw [hm] at s1
    cases m with
    | true =>
     refine Zag rfl rfl rfl hm (fun _ => rfl) rfl rfl ?_
     refine Zh6 rfl rfl rfl hm (fun _ => rfl) rfl rfl rfl ?_
     iterate 2 refine Zag rfl rfl rfl hm (fun _ => rfl) rfl rfl ?_
     refine ZaB rfl rfl rfl hm rfl rfl rfl ?_
     refine Zah rfl (fun _ => rfl) rfl rfl ?_
     refine ZbW rfl (And.intro rfl ?_)
     refine And.intro rfl ?_
     refine And.intro rfl ?_
     refine And.intro rfl ?_
     refine And.intro rfl ?_
     show SV.agg [.v .b (decide ((0 : Int) < ((wOf A.natAbs).length : Int))), ZaW (wOf A.natAbs), .v .b (decide (B < 0)), ZaW (wOf B.natAbs)] = QS _ _
     simp only at s1
     rw [s2] at s1
     rw [q1, q2, s2, s1]
    | false =>
     iterate 4 refine Zae rfl rfl rfl hm rfl rfl ?_
     refine Zax rfl rfl rfl hm rfl rfl rfl ?_
     refine Zah rfl (fun _ => rfl) rfl rfl ?_
     refine ZbW rfl (And.intro rfl ?_)
     refine And.intro rfl ?_
     refine And.intro rfl ?_
     refine And.intro rfl ?_
     refine And.intro rfl ?_
     show SV.agg [.v .b false, ZaW (wOf A.natAbs), .v .b (decide (B < 0)), ZaW (wOf B.natAbs)] = QS _ _
     simp only at s1
     rw [q1, q2, s2]
     show SV.agg [.v .b false, ZaW (wOf (n' / g).natAbs), .v .b (decide (B < 0)), ZaW (wOf B.natAbs)] = SV.agg [.v .b (decide (n' / g < 0)), ZaW (wOf (n' / g).natAbs), .v .b (decide (B < 0)), ZaW (wOf B.natAbs)]
     rw [← s1]
end Go.Proofs.YtnfgnkbgajhhbaaGreatDoor
/-
 The operations of large.Rat on rational numbers.
-/
namespace Go.Proofs.YtnfgnkbgajhhbaaGreatDoor
open Go.Am Go.Tx Dv Go.Lib
set_option maxRecDepth 100000
def szQ (q : Rat) (k : Nat) : Prop := ln q.num ≤ k ∧ ln (q.den : Int) ≤ k
theorem Zha (p q : Rat) : Rat.divInt (p.num * q.den + q.num * p.den) (p.den * q.den) = p + q := by
 rw [Rat.add_def', ← Int.natCast_mul, Rat.divInt_ofNat]
theorem Zg8 (p q : Rat) : Rat.divInt (p.num * q.num) (p.den * q.den) = p * q := by
 rw [Rat.mul_def', ← Int.natCast_mul, Rat.divInt_ofNat]
theorem ZcN (q : Rat) : 0 < (q.den : Int) := by have := q.den_pos; omega
theorem Zlh (v : Int) : sg (decide (v < 0)) ((v.natAbs : Nat) : Int) = v := by
 by_cases h : v < 0
 ·rw [decide_eq_true h]; simp only [sg]; omega
 ·rw [decide_eq_false h]; simp only [sg]; omega
set_option maxHeartbeats 4000000 in
theorem Zwk (p q : Rat) {k : Nat} (hk : k ≤ 100000) (hp : szQ p k) (hq : szQ q k) : PureOK Tryz.prog Zat 62 [QR p, QR q] (fun V => V = QR (p + q)) := by
 obtain ⟨p1, p2⟩ := hp
 obtain ⟨q1, q2⟩ := hq
 have l1 := ZdM p.num q.den
 have l2 := ZdM q.num p.den
 have l3 := ZdM p.den q.den
 have l4 := Zt7 (p.num * q.den) (q.num * p.den)
 refine Zai Zaj Tryz.func62 ?_
 refine And.intro rfl ?_
 refine And.intro rfl ?_
 refine (Zpq p.num q.den (by omega) (by omega)).mono ?_
 rintro _ rfl
 refine And.intro rfl ?_
 refine And.intro rfl ?_
 refine (Zpq q.num p.den (by omega) (by omega)).mono ?_
 rintro _ rfl
 refine (Ztu (p.num * q.den) (q.num * p.den) (by omega) (by omega)).mono ?_
 rintro _ rfl
 refine And.intro rfl ?_
 refine And.intro rfl ?_
 refine (Zpq p.den q.den (by omega) (by omega)).mono ?_
 rintro _ rfl
 refine (Zp3 (p.num * q.den + q.num * p.den) (p.den * q.den) (by have := Int.mul_pos (ZcN p) (ZcN q); omega) (by omega) (by omega)).mono ?_
 rintro _ rfl
 rw [Zha]
 refine And.intro rfl ?_
 exact ⟨rfl, rfl⟩
set_option maxHeartbeats 4000000 in
theorem Zxh (p q : Rat) {k : Nat} (hk : k ≤ 100000) (hp : szQ p k) (hq : szQ q k) : PureOK Tryz.prog Zat 66 [QR p, QR q] (fun V => V = QR (p * q)) := by
 obtain ⟨p1, p2⟩ := hp
 obtain ⟨q1, q2⟩ := hq
 have l1 := ZdM p.num q.num
 have l3 := ZdM p.den q.den
 refine Zai Zaj Tryz.func66 ?_
 refine And.intro rfl ?_
 refine And.intro rfl ?_
 refine (Zpq p.num q.num (by omega) (by omega)).mono ?_
 rintro _ rfl
 refine And.intro rfl ?_
 refine And.intro rfl ?_
 refine (Zpq p.den q.den (by omega) (by omega)).mono ?_
 rintro _ rfl
 refine (Zp3 (p.num * q.num) (p.den * q.den) (by have := Int.mul_pos (ZcN p) (ZcN q); omega) (by omega) (by omega)).mono ?_
 rintro _ rfl
 rw [Zg8]
 refine And.intro rfl ?_
 exact ⟨rfl, rfl⟩
end Go.Proofs.YtnfgnkbgajhhbaaGreatDoor
/-
 strings.Index, Contains, Cut at a text of one byte.
-/
namespace Go.Proofs.YtnfgnkbgajhhbaaGreatDoor
open Go.Am Go.Tx Dv Go.Lib
set_option maxRecDepth 100000
theorem ZuQ (s : List UInt8) (c : UInt8) : PureOK Tryz.prog Zat 146 [.v .s s, .v .s [c]] (fun V => V = .v (.i .i64) (ZbA s c 0)) := by
 refine ⟨fun qs hr => ?_⟩
 simp only [RL, RV, RR, List.cons.injEq, and_true] at hr
 obtain ⟨_, _, rfl, rfl, _, _, rfl, rfl, rfl⟩ := hr
 refine ⟨.int .i64 (ZbA s c 0), _, ?_, ?_, rfl⟩
 ·show (indexG [.str ⟨s.toArray⟩, .str ⟨[c].toArray⟩]).bind (fun v => exp ZaD [] v) = _
  rfl
 ·simp only [RV, RR]
theorem Zud (s : List UInt8) (c : UInt8) : -1 ≤ ZbA s c 0 ∧ ZbA s c 0 < s.length := by
 have h : ∀ (l : List UInt8) (i : Nat), -1 ≤ ZbA l c i ∧ ZbA l c i < i + l.length ∨ ZbA l c i = -1 := by
  intro l
  induction l with
  | nil => intro i; right; rfl
  | cons b l ih =>
   intro i
   rw [ZbA]
   cases Nat.beq b.toNat c.toNat with
   | true => left; simp only [List.length_cons]; omega
   | false =>
    simp only
    rcases ih (i + 1) with h | h
    ·left; simp only [List.length_cons]; omega
    ·right; exact h
 rcases h s 0 with h | h <;> omega
theorem Zwm (s : List UInt8) (c : UInt8) (hl : s.length ≤ 9223372036854775806) : PureOK Tryz.prog Zat 132 [.v .s s, .v .s [c]] (fun V => V = .tup [.v .s (ZcK s c).1, .v .s (ZcK s c).2.1, .v .b (ZcK s c).2.2]) := by
 refine Zai Zaj Tryz.func132 ?_
 have hi := Zud s c
 refine (ZuQ s c).mono ?_
 rintro _ rfl
 obtain ⟨k, hk⟩ : ∃ k, ZbA s c 0 = k := ⟨_, rfl⟩
 have hcut : ZcK s c = match decide (0 ≤ k) with | true => (s.take k.toNat, s.drop (k.toNat + 1), true) | false => (s, [], false) := by rw [← hk]; rfl
 rw [hk] at hi ⊢
 refine And.intro (fun h => ?_) (fun h => ?_)
 ·have h' : decide (0 ≤ k) = true := h
  have h0 : 0 ≤ k := of_decide_eq_true h'
  have e1 : IntKind.i64.wrap (k + 1) = k + 1 := Zam (by omega) (by omega)
  refine And.intro (show 0 ≤ k ∧ k ≤ (s.length : Int) from ⟨h0, by omega⟩) ?_
  refine And.intro (by show 0 ≤ IntKind.i64.wrap (k + 1) ∧ IntKind.i64.wrap (k + 1) ≤ (s.length : Int); rw [e1]; omega) ?_
  have e2 : List.drop (IntKind.i64.wrap (k + 1)).toNat (List.take s.length s) = s.drop (k.toNat + 1) := by
   rw [e1, List.take_length, show (k + 1).toNat = k.toNat + 1 by omega]
  show SV.tup [.v .s (List.drop 0 (List.take k.toNat s)), .v .s (List.drop (IntKind.i64.wrap (k + 1)).toNat (List.take s.length s)), .v .b true] = _
  rw [e2, hcut, h']
  rfl
 ·have h' : decide (0 ≤ k) = false := h
  rw [hcut, h']
  rfl
theorem ZwK (s : List UInt8) (c : UInt8) (hl : s.length ≤ 9223372036854775806) : PureOK Tryz.prog Zat 105 [.v .s s, .v .s [c]] (fun V => V = .tup [.v .s (ZcK s c).1, .v .s (ZcK s c).2.1, .v .b (ZcK s c).2.2]) := by
 refine Zai Zaj Tryz.func105 ?_
 refine (Zwm s c hl).mono ?_
 rintro _ rfl
 rfl
end Go.Proofs.YtnfgnkbgajhhbaaGreatDoor
/-
 large.Read: the number of a text.
-/
namespace Go.Proofs.YtnfgnkbgajhhbaaGreatDoor
open Go.Am Go.Tx Dv
set_option maxRecDepth 100000
theorem ZoY (ds : List UInt8) : Zl4 (45 :: ds) [45] = true := by simp [Zl4]; omega
theorem Zmh {ds : List UInt8} (h : Dg ds) : Zl4 ds [45] = false := by
 cases ds with
 | nil => rfl
 | cons c r =>
  have h1 := h c List.mem_cons_self
  have h2 : c ≠ 45 := by rintro rfl; exact absurd h1.1 (by decide)
  simp [Zl4, h2]
theorem Zt5 {s : List UInt8} (h : Dg s) : (wOf (dec s)).length ≤ s.length := by
 rw [Zb3]
 exact Nat.lt_of_lt_of_le (Zbo h) (Nat.pow_le_pow_left (by decide) _)
theorem Zp4 (s : List UInt8) (n : Nat) : dec s = dec (s.take n) * 10 ^ (s.drop n).length + dec (s.drop n) := by
 conv => lhs; rw [← List.take_append_drop n s]
 exact ZjP _ _
def ZrI (neg : Bool) (ds : List UInt8) : List UInt8 := match neg with | true => 45 :: ds | false => ds
def Zx0 (neg : Bool) (t : List UInt8 × Nat) : TM := [(0, .v .s t.1), (2, .ptr 0 0 0), (3, .v .b neg), (4, .ptr 1 0 0)]
def Zx3 (t : List UInt8 × Nat) : List SM := [.cell [.v .b false, .nils] true, .cell [.v .b false, ZaW (wOf t.2)] true]
set_option maxHeartbeats 8000000 in
theorem ZqO (neg : Bool) (ds : List UInt8) (hd : Dg ds) (hl : ds.length ≤ 300000) : PureOK Tryz.prog Zat 108 [.v .s (ZrI neg ds)] (fun V => V = IS (sg neg (dec ds : Nat))) := by
 obtain ⟨s, hs⟩ : ∃ s, ZrI neg ds = s := ⟨_, rfl⟩
 have hP : Zl4 s [45] = neg := by cases neg <;> subst hs <;> first | exact ZoY ds | exact Zmh hd
 have hT : (match Zl4 s [45] with | true => s.drop [(45 : UInt8)].length | false => s) = ds := by rw [hP]; cases neg <;> subst hs <;> rfl
 rw [hs]
 refine Zai Zaj Tryz.func108 ?_
 refine (Zm7 s [45]).mono ?_
 rintro _ rfl
 refine (Zgv s [45]).mono ?_
 rintro _ rfl
 refine And.intro rfl ?_
 refine Zav Zaj rfl (Zx0 neg) Zx3 (fun t => Dg t.1 ∧ t.1.length ≤ ds.length ∧ dec ds = t.2 * 10 ^ t.1.length + dec t.1 ∧ (t.2 = 0 ∨ t.1.length % 9 = 0)) (fun t => t.1.length) ?_ (ds, 0) ?_ ?_
 ·rintro ⟨r, v⟩ ⟨h1, h2, h3, h4⟩
  simp only at h1 h2 h3 h4
  refine And.intro (fun h => ?_) (fun h => ?_)
  ·have hr : 1 ≤ r.length := by have h' : (0 : Int) < (r.length : Int) := of_decide_eq_true h; omega
   obtain ⟨n, hn⟩ : ∃ n, n = (r.length - 1) % 9 + 1 := ⟨_, rfl⟩
   have e1 : IntKind.i64.wrap ((r.length : Int) - 1) = ((r.length - 1 : Nat) : Int) := by rw [Zam (by omega) (by omega)]; omega
   have e2 : IntKind.i64.wrap ((IntKind.i64.wrap ((r.length : Int) - 1)).tmod 9 + 1) = (n : Int) := by
    rw [e1, Int.tmod_eq_emod_of_nonneg (by omega), Zam (by omega) (by omega)]; omega
   have hnr : n ≤ r.length := by omega
   have bn : (0 : Int) ≤ IntKind.i64.wrap ((IntKind.i64.wrap ((r.length : Int) - 1)).tmod 9 + 1) ∧ IntKind.i64.wrap ((IntKind.i64.wrap ((r.length : Int) - 1)).tmod 9 + 1) ≤ (r.length : Int) := by rw [e2]; omega
   have hlt : (r.take n).length = n := by rw [List.length_take]; omega
   have hdt : Dg (r.take n) := fun c hc => h1 c (List.mem_of_mem_take hc)
   have hdd : Dg (r.drop n) := fun c hc => h1 c (List.mem_of_mem_drop hc)
   refine And.intro (by decide) ?_
   refine And.intro bn ?_
   have et : List.drop 0 (List.take (IntKind.i64.wrap ((IntKind.i64.wrap ((r.length : Int) - 1)).tmod 9 + 1)).toNat r) = r.take n := by rw [e2, List.drop_zero, Int.toNat_natCast]
   have hpu := Zmy (r.take n) hdt (by omega) (by omega)
   rw [← et] at hpu
   refine hpu.mono ?_
   rintro _ rfl
   have hvd : v ≤ dec ds := by
    have : v * 1 ≤ v * 10 ^ r.length := Nat.mul_le_mul_left _ (Nat.one_le_pow _ _ (by decide))
    omega
   have hlv : ln (v : Int) ≤ 300000 := by
    rw [ln, Int.natAbs_natCast]
    exact Nat.le_trans (Za5 hvd) (Nat.le_trans (Zt5 hd) hl)
   have hdl := Zbo hdt
   have hd9 : dec (r.take n) < 1000000000 := Nat.lt_of_lt_of_le hdl (Nat.pow_le_pow_right (by decide) (show (r.take n).length ≤ 9 by omega))
   obtain ⟨d, ed⟩ : ∃ d : Nat, dec (List.drop 0 (List.take (IntKind.i64.wrap ((IntKind.i64.wrap ((r.length : Int) - 1)).tmod 9 + 1)).toNat r)) = d := ⟨_, rfl⟩
   have ed' : dec (r.take n) = d := by rw [← ed, et]
   have edw : IntKind.i64.wrap ((dec (List.drop 0 (List.take (IntKind.i64.wrap ((IntKind.i64.wrap ((r.length : Int) - 1)).tmod 9 + 1)).toNat r)) : Nat) : Int) = (d : Int) := by rw [ed]; exact Zam (by omega) (by omega)
   refine And.intro rfl ?_
   refine (Zv9 1000000000 (by decide) (by decide)).mono ?_
   rintro _ rfl
   have l9 : ln 1000000000 ≤ 2 := Zkp (by decide)
   have hmul := Zpq (v : Int) 1000000000 (by omega) (by omega)
   rw [Zoo v] at hmul
   refine hmul.mono ?_
   rintro _ rfl
   have hof := Zv9 (d : Int) (by omega) (by omega)
   rw [← edw] at hof
   refine hof.mono ?_
   rintro _ rfl
   rw [edw]
   have ld : ln (d : Int) ≤ 2 := Zkp (by omega)
   have lm := ZdM (v : Int) 1000000000
   refine (Ztu ((v : Int) * 1000000000) (d : Int) (by omega) (by omega)).mono ?_
   rintro _ rfl
   refine And.intro rfl ?_
   refine And.intro bn ?_
   have exd : List.drop (IntKind.i64.wrap ((IntKind.i64.wrap ((r.length : Int) - 1)).tmod 9 + 1)).toNat (List.take r.length r) = r.drop n := by rw [e2, List.take_length, Int.toNat_natCast]
   have hv' : ((v * 1000000000 + d : Nat) : Int) = (v : Int) * 1000000000 + d := by omega
   have c1 : false = decide ((v : Int) * 1000000000 + (d : Int) < 0) := (decide_eq_false (by omega)).symm
   have c2 : wOf (v * 1000000000 + d) = wOf ((v : Int) * 1000000000 + (d : Int)).natAbs := by rw [← hv', Int.natAbs_natCast]
   refine ⟨(r.drop n, v * 1000000000 + d), ⟨hdd, by show (r.drop n).length ≤ _; rw [List.length_drop]; omega, ?_, .inr ?_⟩, by show (r.drop n).length < r.length; rw [List.length_drop]; omega, ?_⟩
   ·show dec ds = (v * 1000000000 + d) * 10 ^ (r.drop n).length + dec (r.drop n)
    have hsp := Zp4 r n
    rw [ed'] at hsp
    rw [h3]
    have hv9 : v * 10 ^ r.length = v * 1000000000 * 10 ^ (r.drop n).length := by
     rcases h4 with h4 | h4
     ·rw [h4]; simp
     ·have : n = 9 := by omega
      rw [List.length_drop, this, Nat.mul_assoc, show 1000000000 = 10 ^ 9 from rfl, ← Nat.pow_add, show 9 + (r.length - 9) = r.length by omega]
    rw [hv9, Nat.add_mul]
    omega
   ·show (r.drop n).length % 9 = 0
    rw [List.length_drop]; omega
   ·refine Zan rfl rfl ?_ ?_
    ·exact ⟨exd.symm, ⟨rfl, rfl⟩, rfl, ⟨rfl, rfl⟩, trivial⟩
    ·exact ⟨⟨⟨rfl, trivial, trivial⟩, fun _ => rfl⟩, ⟨⟨c1, c2, trivial⟩, fun _ => rfl⟩, trivial⟩
  ·have hr : r = [] := by
    cases r with
    | nil => rfl
    | cons c l =>
     have h' : ¬ (0 : Int) < ((c :: l).length : Int) := of_decide_eq_false h
     simp at h'
   subst hr
   have hv : dec ds = v := by
    rw [h3, Zj3]; simp
   have hl0 : decide ((0 : Int) < ((wOf v).length : Int)) = decide (0 < v) := by
    refine decide_eq_decide.2 ?_
    have := ZdW (n := v)
    rw [← List.length_eq_zero_iff] at this
    omega
   have fin : SV.agg [.v .b (neg && decide ((0 : Int) < ((wOf v).length : Int))), ZaW (wOf v)] = IS (sg neg (dec ds : Nat)) := by
    rw [hv, hl0]
    show _ = SV.agg [.v .b (decide (sg neg (v : Int) < 0)), ZaW (wOf (sg neg (v : Int)).natAbs)]
    rw [Zk0, Int.natAbs_natCast]
    have : (neg && decide (0 < v)) = decide (sg neg (v : Int) < 0) := by
     cases neg with
     | true =>
      simp only [Bool.true_and, sg]
      exact decide_eq_decide.2 (by omega)
     | false =>
      simp only [Bool.false_and, sg]
      exact (decide_eq_false (by omega)).symm
    rw [this]
   cases neg with
   | true =>
    refine And.intro (fun _ => ?_) (fun h' => nomatch h')
    refine And.intro (fun _ => ?_) (fun h' => nomatch h')
    refine And.intro rfl ?_
    refine And.intro (fun _ => ?_) (fun h' => nomatch h')
    refine And.intro (fun _ => ?_) (fun h' => nomatch h')
    refine And.intro (fun _ => ?_) (fun h' => nomatch h')
    refine ⟨rfl, rfl, rfl, rfl, fin⟩
   | false =>
    refine And.intro (fun h' => nomatch h') (fun _ => ?_)
    refine And.intro (fun h' => nomatch h') (fun _ => ?_)
    refine And.intro (fun h' => nomatch h') (fun _ => ?_)
    refine And.intro (fun h' => nomatch h') (fun _ => ?_)
    refine And.intro (fun h' => nomatch h') (fun _ => ?_)
    refine ⟨rfl, rfl, rfl, rfl, fin⟩
 ·refine ⟨hd, Nat.le_refl _, by simp, .inl rfl⟩
 ·refine Zan rfl rfl ?_ ?_
  ·exact ⟨hT.symm, ⟨rfl, rfl⟩, hP.symm, ⟨rfl, rfl⟩, trivial⟩
  ·exact ⟨⟨⟨rfl, trivial, trivial⟩, fun _ => rfl⟩, ⟨⟨rfl, ZcQ, trivial⟩, fun _ => rfl⟩, trivial⟩
end Go.Proofs.YtnfgnkbgajhhbaaGreatDoor
