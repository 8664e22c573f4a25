/-
 slices.Clone; (large.Int).DivMod.
-/
import Derived.Test.YtnfgnkbgajhhbaaGreatDoorT16
set_option linter.constructorNameAsVariable false
set_option linter.unusedSimpArgs false
set_option linter.unusedVariables false
namespace Go.Proofs.YtnfgnkbgajhhbaaGreatDoor
open Go.Am Go.Tx Dv
set_option maxRecDepth 100000
theorem Zoo (n : Nat) : IS (n : Int) = .agg [.v .b false, ZaW (wOf n)] := by
 show SV.agg [.v .b (decide ((n : Int) < 0)), ZaW (wOf (n : Int).natAbs)] = _
 rw [decide_eq_false (by omega), Int.natAbs_natCast]
set_option maxHeartbeats 4000000 in
theorem Zmp (a : List Int) (hl : a.length ≤ 10000000) : PureOK Tryz.prog Zat 144 [ZaW a] (fun V => V = ZaW a) := by
 refine PureOK.as (Q := fun V => V = ZaW a ∨ (V = .nils ∧ a = [])) ?_ ?_
 rotate_left
 ·rintro V (h | ⟨rfl, rfl⟩)
  ·exact ⟨V, AsV.refl V, h⟩
  ·exact ⟨_, AsV.nil _, rfl⟩
 refine Zai Zaj Tryz.func144 ?_
 refine And.intro (fun hx => ?_) ?_
 ·refine And.intro (fun _ => ?_) (fun h => nomatch h)
  exact .inr ⟨rfl, hx⟩
 ·refine And.intro (fun h => nomatch h) (fun _ => ?_)
  refine And.intro (by show 0 + 0 ≤ 0; decide) ?_
  cases a with
  | nil =>
   refine And.intro (by show 0 + 0 ≤ 0; decide) ?_
   exact .inl rfl
  | cons x r =>
   refine And.intro (by show (0 + (r.length + 1)) * 4 ≤ _; simp at hl; omega) ?_
   refine And.intro (by show 0 + (0 + (r.length + 1)) ≤ (x :: r).length; simp) ?_
   refine .inl (congrArg ZaW ?_)
   show sub (sub [] 0 0 ++ x :: r) 0 (0 + (r.length + 1)) = x :: r
   simp [sub]
theorem Zym (a b : Int) (hb : 0 < b) (h : ¬ (sg (decide (a < 0)) ((a.natAbs % b.natAbs : Nat) : Int) < 0)) : sg (decide (a < 0)) ((a.natAbs / b.natAbs : Nat) : Int) = a / b ∧ sg (decide (a < 0)) ((a.natAbs % b.natAbs : Nat) : Int) = a % b := by
 obtain ⟨n, rfl⟩ : ∃ n : Nat, b = n := ⟨b.toNat, by omega⟩
 rw [Int.natAbs_natCast] at h ⊢
 by_cases ha : a < 0
 ·obtain ⟨m, rfl⟩ : ∃ m : Nat, a = -(m : Int) := ⟨(-a).toNat, by omega⟩
  rw [decide_eq_true ha] at h ⊢
  rw [Int.natAbs_neg, Int.natAbs_natCast] at h ⊢
  simp only [sg] at h ⊢
  have h0 : m % n = 0 := by omega
  have e := Nat.div_add_mod m n
  rw [h0, Nat.add_zero] at e
  rw [h0]
  have em : -(m : Int) = (n : Int) * -((m / n : Nat) : Int) := by rw [Int.mul_neg, ← Int.natCast_mul, e]
  constructor
  ·rw [em, Int.mul_ediv_cancel_left _ (by omega)]
  ·rw [em, Int.mul_emod_right]; rfl
 ·obtain ⟨m, rfl⟩ : ∃ m : Nat, a = m := ⟨a.toNat, by omega⟩
  rw [decide_eq_false ha, Int.natAbs_natCast]
  exact ⟨rfl, rfl⟩
theorem Zyo (a b : Int) (hb : 0 < b) (h : sg (decide (a < 0)) ((a.natAbs % b.natAbs : Nat) : Int) < 0) : sg (decide (a < 0)) ((a.natAbs / b.natAbs : Nat) : Int) - 1 = a / b ∧ sg (decide (a < 0)) ((a.natAbs % b.natAbs : Nat) : Int) + b = a % b := by
 obtain ⟨n, rfl⟩ : ∃ n : Nat, b = n := ⟨b.toNat, by omega⟩
 rw [Int.natAbs_natCast] at h ⊢
 by_cases ha : a < 0
 ·obtain ⟨m, rfl⟩ : ∃ m : Nat, a = -(m : Int) := ⟨(-a).toNat, by omega⟩
  rw [decide_eq_true ha] at h ⊢
  rw [Int.natAbs_neg, Int.natAbs_natCast] at h ⊢
  simp only [sg] at h ⊢
  have h0 : 0 < m % n := by omega
  have h1 : m % n < n := Nat.mod_lt _ (by omega)
  have e := Nat.div_add_mod m n
  have em : -(m : Int) = (-((m % n : Nat) : Int) + n) + (n : Int) * (-((m / n : Nat) : Int) - 1) := by
   have : (m : Int) = (n : Int) * ((m / n : Nat) : Int) + ((m % n : Nat) : Int) := by rw [← Int.natCast_mul, ← Int.natCast_add, e]
   rw [this]; grind
  constructor
  ·rw [em, Int.add_mul_ediv_left _ _ (by omega), Int.ediv_eq_zero_of_lt (by omega) (by omega)]; omega
  ·rw [em, Int.add_mul_emod_self_left, Int.emod_eq_of_lt (by omega) (by omega)]
 ·rw [decide_eq_false ha] at h
  simp only [sg] at h
  omega
theorem Zk0 (m : Bool) (x : Int) : (sg m x).natAbs = x.natAbs := by cases m <;> simp [sg]
def dmH (a b q r : Int) : List SM := [.cell [.v .b (decide (a < 0)), ZaW (wOf a.natAbs)] true, .cell [.v .b (decide (b < 0)), ZaW (wOf b.natAbs)] true, .cell [.v .b false, .nils] true, .cell [.v .b false, .nils] true, .cell [.v .b (decide (q < 0)), ZaW (wOf q.natAbs)] true, .cell [.v .b (decide (r < 0)), ZaW (wOf r.natAbs)] true]
set_option maxHeartbeats 8000000 in
theorem ZnZ (a b : Int) (hb : 0 < b) (hla : ln a ≤ 700000) (hlb : ln b ≤ 700000) : PureOK Tryz.prog Zat 127 [IS a, IS b] (fun V => V = .tup [IS (a / b), IS (a % b)]) := by
 have hla' : (wOf a.natAbs).length ≤ 700000 := hla
 have hlb' : (wOf b.natAbs).length ≤ 700000 := hlb
 refine Zai Zaj Tryz.func127 ?_
 refine And.intro rfl ?_
 refine And.intro rfl ?_
 refine (ZiM a.natAbs b.natAbs (by omega) (by omega) (by omega)).mono ?_
 rintro _ ⟨qw, rw_, rfl, q1, r1, q2, r2, q3, r3⟩
 refine And.intro rfl ?_
 refine (Zmp qw (by omega)).mono ?_
 rintro _ rfl
 refine (Zdq _ qw q1 (by omega)).mono ?_
 rintro _ rfl
 refine And.intro rfl ?_
 refine (Zmp rw_ (by omega)).mono ?_
 rintro _ rfl
 refine (Zdq _ rw_ r1 (by omega)).mono ?_
 rintro _ rfl
 obtain ⟨Q, hQ⟩ : ∃ Q, sg (decide (a < 0)) (wv qw) = Q := ⟨_, rfl⟩
 obtain ⟨R, hR⟩ : ∃ R, sg (decide (a < 0)) (wv rw_) = R := ⟨_, rfl⟩
 refine And.intro rfl ?_
 refine And.intro rfl ?_
 refine And.intro rfl ?_
 have hQR := hQ
 have hRR := hR
 rw [q3] at hQR
 rw [r3] at hRR
 refine And.intro (fun h => ?_) (fun h => ?_)
 ·have h' : sg (decide (a < 0)) (wv rw_) < 0 := of_decide_eq_true h
  obtain ⟨e1, e2⟩ := Zyo a b hb (by rw [r3] at h'; exact h')
  refine Zlq (dmH a b (sg (decide (a < 0)) (wv qw)) (sg (decide (a < 0)) (wv rw_))) rfl ?_
  have lq : ln Q ≤ 700001 := by
   rw [← hQR]
   refine Nat.le_trans (Zil (b := a) ?_) (by omega)
   have := Nat.div_le_self a.natAbs b.natAbs
   rw [Zk0, Int.natAbs_natCast]; omega
  have lr : ln R ≤ 700001 := by
   rw [← hRR]
   refine Nat.le_trans (Zil (b := a) ?_) (by omega)
   have := Nat.mod_le a.natAbs b.natAbs
   rw [Zk0, Int.natAbs_natCast]; omega
  refine And.intro rfl ?_
  refine (Zv9 1 (by decide) (by decide)).mono ?_
  rintro _ rfl
  have l1 : ln 1 ≤ 2 := Zkp (by decide)
  refine (ZxO (sg (decide (a < 0)) (wv qw)) 1 (by rw [hQ]; omega) (by omega)).mono ?_
  rintro _ rfl
  refine And.intro rfl ?_
  refine And.intro rfl ?_
  refine (Ztu (sg (decide (a < 0)) (wv rw_)) b (by rw [hR]; omega) (by omega)).mono ?_
  rintro _ rfl
  refine And.intro rfl ?_
  refine And.intro rfl ?_
  refine Zlq (dmH a b (sg (decide (a < 0)) (wv qw) - 1) (sg (decide (a < 0)) (wv rw_) + b)) rfl ?_
  refine ⟨rfl, rfl, rfl, rfl, rfl, rfl, ?_⟩
  show SV.tup [IS (sg (decide (a < 0)) (wv qw) - 1), IS (sg (decide (a < 0)) (wv rw_) + b)] = _
  rw [q3, r3, e1, e2]
 ·have h' : ¬ sg (decide (a < 0)) (wv rw_) < 0 := of_decide_eq_false h
  obtain ⟨e1, e2⟩ := Zym a b hb (by rw [r3] at h'; exact h')
  refine ⟨rfl, rfl, rfl, rfl, rfl, rfl, ?_⟩
  show SV.tup [IS (sg (decide (a < 0)) (wv qw)), IS (sg (decide (a < 0)) (wv rw_))] = _
  rw [q3, r3, e1, e2]
end Go.Proofs.YtnfgnkbgajhhbaaGreatDoor
/-
 large.Gcd; strings.HasPrefix, TrimPrefix; strconv.ParseUint and (large.Int).Text as typed calls; large.Read.
-/
namespace Go.Proofs.YtnfgnkbgajhhbaaGreatDoor
open Go.Am Go.Tx Dv
set_option maxRecDepth 100000
theorem ZuL (n : Nat) : PureOK Tryz.prog Zat 119 [.agg [.v .b false, ZaW (wOf n)]] (fun V => V = .v (.i .i64) ((n : Int)).sign) := by
 rw [← Zoo]
 exact ZuB n
def Zyn (t : Nat × Nat) : List SM := [.cell [.v .b false, ZaW (wOf t.1)] true, .cell [.v .b false, ZaW (wOf t.2)] true, .cell [.v .b false, .nils] true]
set_option maxHeartbeats 4000000 in
theorem Zwn (a b : Int) (hla : ln a ≤ 700000) (hlb : ln b ≤ 700000) : PureOK Tryz.prog Zat 126 [IS a, IS b] (fun V => V = IS (Int.gcd a b : Int)) := by
 refine Zai Zaj Tryz.func126 ?_
 refine And.intro rfl ?_
 refine And.intro rfl ?_
 refine Zav Zaj rfl (fun (_ : Nat × Nat) => [(2, .ptr 0 0 0), (3, .ptr 1 0 0), (4, .ptr 2 0 0)]) Zyn
  (fun t => (wOf t.1).length ≤ 700000 ∧ (wOf t.2).length ≤ 700000 ∧ Nat.gcd t.1 t.2 = Int.gcd a b) (fun t => t.2) ?_ (a.natAbs, b.natAbs) ⟨hla, hlb, rfl⟩ ?_
 ·rintro ⟨A, B⟩ ⟨h1, h2, h3⟩
  simp only at h1 h2 h3
  refine And.intro rfl ?_
  refine (ZuL B).mono ?_
  rintro _ rfl
  refine And.intro (fun h => ?_) (fun h => ?_)
  ·have hB : 0 < B := by
    have h' : (!decide ((B : Int).sign = 0)) = true := h
    rcases Nat.eq_zero_or_pos B with h0 | h0
    ·subst h0; simp at h'
    ·exact h0
   refine And.intro rfl ?_
   refine And.intro rfl ?_
   refine (ZiM A B hB (by omega) (by omega)).mono ?_
   rintro _ ⟨q, r, rfl, q1, r1, q2, r2, q3, r3⟩
   refine And.intro rfl ?_
   refine (Zmp r (by omega)).mono ?_
   rintro _ rfl
   refine (Zdq false r r1 (by omega)).mono ?_
   rintro _ rfl
   refine And.intro rfl ?_
   refine And.intro rfl ?_
   have er : sg false (wv r) = ((A % B : Nat) : Int) := r3
   have hm : A % B < B := Nat.mod_lt _ hB
   refine ⟨(B, A % B), ⟨h2, Nat.le_trans (Za5 (Nat.le_of_lt hm)) h2, ?_⟩, hm, ?_⟩
   ·show Nat.gcd B (A % B) = _
    rw [← h3, Nat.gcd_comm A B, Nat.gcd_rec B A, Nat.gcd_comm]
   ·have e1 : false = decide (sg false (wv r) < 0) := by rw [er]; exact (decide_eq_false (by omega)).symm
    have e2 : wOf (A % B) = wOf (sg false (wv r)).natAbs := by rw [er, Int.natAbs_natCast]
    refine Zan rfl rfl ?_ ?_
    ·exact ⟨⟨rfl, rfl⟩, ⟨rfl, rfl⟩, ⟨rfl, rfl⟩, trivial⟩
    ·exact ⟨⟨⟨rfl, rfl, trivial⟩, fun _ => rfl⟩, ⟨⟨e1, e2, trivial⟩, fun _ => rfl⟩, ⟨⟨rfl, trivial, trivial⟩, fun _ => rfl⟩, trivial⟩
  ·have hB : B = 0 := by
    have h' : (!decide ((B : Int).sign = 0)) = false := h
    simpa using h'
   subst hB
   refine ⟨rfl, rfl, rfl, ?_⟩
   rw [Nat.gcd_zero_right] at h3
   show SV.agg [.v .b false, ZaW (wOf A)] = _
   rw [← h3, Zoo]
 ·refine Zan rfl rfl ?_ ?_
  ·exact ⟨⟨rfl, rfl⟩, ⟨rfl, rfl⟩, ⟨rfl, rfl⟩, trivial⟩
  ·exact ⟨⟨⟨rfl, rfl, trivial⟩, fun _ => rfl⟩, ⟨⟨rfl, rfl, trivial⟩, fun _ => rfl⟩, ⟨⟨rfl, trivial, trivial⟩, fun _ => rfl⟩, trivial⟩
def Zl4 (s p : List UInt8) : Bool := decide ((p.length : Int) ≤ (s.length : Int)) && (s.take p.length == p)
set_option maxHeartbeats 4000000 in
theorem Zgt (s p : List UInt8) : PureOK Tryz.prog Zat 145 [.v .s s, .v .s p] (fun V => V = .v .b (Zl4 s p)) := by
 refine Zai Zaj Tryz.func145 ?_
 refine Zab (Zaa rfl ?_)
 refine Zah rfl (fun _ => rfl) rfl rfl ?_
 refine Zal ?_
 refine Zab (Zaa rfl ?_)
 iterate 6 refine Zah rfl (fun _ => rfl) rfl rfl ?_
 cases hc : decide ((p.length : Int) ≤ (s.length : Int)) with
 | true =>
  have hle : (p.length : Int) ≤ (s.length : Int) := of_decide_eq_true hc
  iterate 3 refine Zag rfl rfl rfl rfl (fun _ => rfl) rfl rfl ?_
  refine Zh6 rfl rfl rfl rfl (fun _ => rfl) ⟨Int.natCast_nonneg _, hle⟩ rfl rfl ?_
  iterate 2 refine Zag rfl rfl rfl rfl (fun _ => rfl) rfl rfl ?_
  refine ZaB rfl rfl rfl rfl rfl rfl rfl ?_
  refine Zah rfl (fun _ => rfl) rfl rfl ?_
  refine Zal ?_
  show SV.v .b (List.drop 0 (s.take ((p.length : Int).toNat)) == p) = .v .b (Zl4 s p)
  rw [Zl4, hc, List.drop_zero, Int.toNat_natCast, Bool.true_and]
 | false =>
  iterate 6 refine Zae rfl rfl rfl rfl rfl rfl ?_
  refine Zax rfl rfl rfl rfl rfl rfl rfl ?_
  refine Zah rfl (fun _ => rfl) rfl rfl ?_
  refine Zal ?_
  show SV.v .b false = .v .b (Zl4 s p)
  rw [Zl4, hc, Bool.false_and]
set_option maxHeartbeats 4000000 in
theorem Zm7 (s p : List UInt8) : PureOK Tryz.prog Zat 135 [.v .s s, .v .s p] (fun V => V = .v .b (Zl4 s p)) := by
 refine Zai Zaj Tryz.func135 ?_
 refine (Zgt s p).mono ?_
 rintro _ rfl
 rfl
set_option maxHeartbeats 4000000 in
theorem Zkg (s p : List UInt8) : PureOK Tryz.prog Zat 131 [.v .s s, .v .s p] (fun V => V = .v .s (match Zl4 s p with | true => s.drop p.length | false => s)) := by
 refine Zai Zaj Tryz.func131 ?_
 refine (Zgt s p).mono ?_
 rintro _ rfl
 refine And.intro (fun h => ?_) (fun h => ?_)
 ·have hle : (p.length : Int) ≤ (s.length : Int) := by
   have h' := h
   simp only [Zl4, Bool.and_eq_true, decide_eq_true_eq] at h'
   exact h'.1
  refine And.intro ⟨Int.natCast_nonneg _, hle⟩ ?_
  have e : (s.take s.length).drop ((p.length : Int).toNat) = s.drop p.length := by rw [List.take_length, Int.toNat_natCast]
  rw [h]
  exact congrArg (SV.v .s) e
 ·rw [h]
  rfl
set_option maxHeartbeats 4000000 in
theorem Zgv (s p : List UInt8) : PureOK Tryz.prog Zat 104 [.v .s s, .v .s p] (fun V => V = .v .s (match Zl4 s p with | true => s.drop p.length | false => s)) := by
 refine Zai Zaj Tryz.func104 ?_
 refine (Zkg s p).mono ?_
 rintro _ rfl
 rfl
theorem Zvn {s : List UInt8} (h : Dg s) : Zv8 s = true := by
 refine List.all_eq_true.2 fun c hc => ?_
 obtain ⟨h1, h2⟩ := h c hc
 rw [Bool.and_eq_true]
 exact ⟨Nat.ble_eq_true_of_le h1, Nat.ble_eq_true_of_le h2⟩
theorem Zmy (x : List UInt8) (hd : Dg x) (h1 : 1 ≤ x.length) (h9 : x.length ≤ 9) : PureOK Tryz.prog Zat 136 [.v .s x, .v (.i .i64) 10, .v (.i .i64) 32] (fun V => V = .tup [.v (.i .u64) (dec x : Nat), .nili]) := by
 refine ⟨fun qs hr => ?_⟩
 simp only [RL, RV, RR, List.cons.injEq, and_true] at hr
 obtain ⟨_, _, rfl, rfl, _, _, rfl, rfl, _, _, rfl, rfl, rfl⟩ := hr
 refine ⟨.tup [.int .u64 (dec x : Nat), .nili], _, ?_, ?_, rfl⟩
 ·show (parseG [.str ⟨x.toArray⟩, .int .i64 10, .int .i64 32]).bind (fun v => exp ZaD [] v) = _
  have b0 := Zvn hd
  have b1 : Nat.ble 1 x.length = true := Nat.ble_eq_true_of_le h1
  have b9 : Nat.ble x.length 9 = true := Nat.ble_eq_true_of_le h9
  have e : parseG [.str ⟨x.toArray⟩, .int .i64 10, .int .i64 32] = some (.tup [.int .u64 (dec x : Nat), .nili]) := by
   simp only [parseG, b0, b1, b9, decide_true, Bool.and_self]
  rw [e]
  rfl
 ·simp only [RV, RL, RR]
  exact ⟨_, rfl, _, _, rfl, rfl, _, _, rfl, rfl, rfl⟩
theorem ZhG : ∀ {a : List Int} {es : List (List PV)}, Wd a → All2 (RR (.i .u32)) a es → Zea es = some a
 | [], [], _, _ => rfl
 | x :: a, c :: es, hw, h => by
  obtain ⟨h1, h2⟩ := h
  simp only [RR] at h1
  subst h1
  have hx := hw x List.mem_cons_self
  have : (decide (0 ≤ x) && decide (x < 4294967296)) = true := by rw [decide_eq_true hx.1, decide_eq_true hx.2]; rfl
  simp only [Zea, this, ZhG (fun y hy => hw y (List.mem_cons_of_mem _ hy)) h2, Option.map_some]
theorem ZnL (v : Int) : PureOK Tryz.prog Zat 100 [IS v] (fun V => V = .tup [.v .s (ZcJ (decide (v < 0)) (wOf v.natAbs)), .v .b (Zck (wOf v.natAbs))]) := by
 refine ⟨fun qs hr => ?_⟩
 obtain ⟨a, ha⟩ : ∃ a, wOf v.natAbs = a := ⟨_, rfl⟩
 have hw : Wd a := ha ▸ ZcS _
 change RL [] [.agg [.v .b (decide (v < 0)), ZaW (wOf v.natAbs)]] qs at hr
 rw [ha] at hr ⊢
 simp only [RL, RV, RR, List.cons.injEq, and_true] at hr
 obtain ⟨_, _, rfl, ⟨_, rfl, _, _, rfl, rfl, _, _, rfl, hq, rfl⟩, rfl⟩ := hr
 refine ⟨.tup [.str ⟨(ZcJ (decide (v < 0)) a).toArray⟩, .bool (Zck a)], _, ?_, ?_, rfl⟩
 ·show (textG _).bind (fun v => exp ZaD [] v) = _
  rcases hq with ⟨rfl, rfl⟩ | ⟨es, rfl, hes⟩
  ·rfl
  ·simp only [textG, ZhG hw hes, Option.map_some]
   rfl
 ·simp only [RV, RL, RR]
  exact ⟨_, rfl, _, _, rfl, rfl, _, _, rfl, rfl, rfl⟩
end Go.Proofs.YtnfgnkbgajhhbaaGreatDoor
/-
 Whole numbers as fractions; the negative of a fraction.
-/
namespace Go.Proofs.YtnfgnkbgajhhbaaGreatDoor
open Go.Am Go.Tx Dv Go.Lib
set_option maxRecDepth 100000
abbrev QS (n d : Int) : SV := .agg [.v .b (decide (n < 0)), ZaW (wOf n.natAbs), .v .b (decide (d < 0)), ZaW (wOf d.natAbs)]
theorem ZuO (n : Int) (h0 : -9223372036854775808 ≤ n) (h1 : n < 9223372036854775808) : PureOK Tryz.prog Zat 77 [.v (.i .i64) n] (fun V => V = QS n 1) := by
 refine Zai Zaj Tryz.func77 ?_
 refine (Zv9 n h0 h1).mono ?_
 rintro _ rfl
 refine (Zv9 1 (by decide) (by decide)).mono ?_
 rintro _ rfl
 refine And.intro rfl ?_
 first | rfl | exact ⟨rfl, rfl⟩ | exact ⟨rfl, rfl, rfl⟩ | exact ⟨rfl, rfl, rfl, rfl⟩
end Go.Proofs.YtnfgnkbgajhhbaaGreatDoor
/-
 The package nat in plain Lean: what its functions answer on texts.
-/
namespace Dv
open Go Go.Am Go.Lib
def cnB (s : List UInt8) : Bool := Zv8 s && (!s.isEmpty && !(decide (1 < s.length) && s.head? == some 48))
def Zaz (s : List UInt8) : Int := match cnB s with
 | false => 5
 | true => match Nat.ble s.length 2000 with
  | true => 0
  | false => 2
theorem Zj1 {s : List UInt8} : Zv8 s = true ↔ Dg s := by
 unfold Zv8
 rw [List.all_eq_true]
 refine forall_congr' fun c => forall_congr' fun _ => ?_
 rw [Bool.and_eq_true, Nat.ble_eq, Nat.ble_eq]
theorem Zjw {s : List UInt8} : cnB s = true ↔ Cn s := by
 simp only [cnB, Bool.and_eq_true, Zj1, Bool.not_eq_true', Bool.and_eq_false_iff, decide_eq_false_iff_not, beq_eq_false_iff_ne, List.isEmpty_eq_false_iff, Cn, ne_eq]
 constructor
 ·rintro ⟨h1, h2, h3⟩
  exact ⟨h2, h1, fun h => h3.resolve_left (by omega)⟩
 ·rintro ⟨h1, h2, h3⟩
  refine ⟨h2, h1, ?_⟩
  by_cases h : 1 < s.length
  ·exact .inr (h3 h)
  ·exact .inl h
theorem ZaY {s : List UInt8} (h : Zaz s = 0) : Cn s ∧ s.length ≤ 2000 := by
 unfold Zaz at h
 split at h
 ·cases h
 ·rename_i hc
  split at h
  ·rename_i hl
   exact ⟨Zjw.1 hc, Nat.le_of_ble_eq_true hl⟩
  ·cases h
theorem Zrp {s : List UInt8} (h : Cn s) (hl : s.length ≤ 2000) : Zaz s = 0 := by
 simp only [Zaz, Zjw.2 h, Nat.ble_eq_true_of_le hl]
def Zsq (n : Nat) : List UInt8 × Int := match Nat.ble (decDigits n).length 2000 with
 | true => (decDigits n, 0)
 | false => ([], 2)
theorem ZpC {n : Nat} (h : n < 10 ^ 2000) : Zsq n = (decDigits n, 0) := by
 have : Nat.ble (decDigits n).length 2000 = true := Nat.ble_eq_true_of_le ((Zbh (k:=2000) (by decide)).2 h)
 simp only [Zsq, this]
theorem Zrj (n : Nat) : Zck (wOf n) = Nat.ble (decDigits n).length 2000 ∧ (Nat.ble (decDigits n).length 2000 = true → ∀ m, ZcJ m (wOf n) = (match decide (n = 0), m with | false, true => [45] | _, _ => []) ++ decDigits n) := by
 by_cases h0 : n = 0
 ·subst h0
  rw [ZcQ, decDigits_one (by decide)]
  refine ⟨rfl, fun _ m => ?_⟩
  cases m <;> rfl
 ·have hne : (wOf n).isEmpty = false := by
   rw [List.isEmpty_eq_false_iff, ne_eq, ZdW]; exact h0
  have hd0 : decide (n = 0) = false := decide_eq_false h0
  by_cases hl : (wOf n).length ≤ 210
  ·have hb : Nat.ble (wOf n).length 210 = true := Nat.ble_eq_true_of_le hl
   have hlt : n < 10 ^ 2100 := Nat.lt_trans (Zb3.1 hl) (by decide +kernel)
   have hv : (wv (wOf n)).toNat = n := by rw [ZbR]; omega
   have hdig : ZtU 2100 n = decDigits n := Zng 2100 n (by decide) hlt
   refine ⟨by simp only [Zck, hne, hb, hv, hdig], fun _ m => ?_⟩
   simp only [ZcJ, hne, hb, hv, hdig, hd0]
   cases m <;> rfl
  ·have hb : Nat.ble (wOf n).length 210 = false := by
    cases hb : Nat.ble (wOf n).length 210 with
    | false => rfl
    | true => exact absurd (Nat.le_of_ble_eq_true hb) hl
   have hge : 10 ^ 2000 ≤ n := by
    rcases Nat.lt_or_ge n (10 ^ 2000) with h | h
    ·exact absurd (Zb3.2 (Nat.lt_trans h (by decide +kernel))) hl
    ·exact h
   have hbl : Nat.ble (decDigits n).length 2000 = false := by
    cases hbl : Nat.ble (decDigits n).length 2000 with
    | false => rfl
    | true =>
     have := (Zbh (by decide)).1 (Nat.le_of_ble_eq_true hbl)
     omega
   exact ⟨by simp only [Zck, hne, hb, hbl], fun h => by rw [hbl] at h; cases h⟩
def Ziy (a b : List UInt8) : Int := match decide (Zaz a = 0) with
 | true => Zaz b
 | false => Zaz a
theorem ZpR {a b : List UInt8} (h : Ziy a b = 0) : Zaz a = 0 ∧ Zaz b = 0 := by
 unfold Ziy at h
 split at h
 ·rename_i h1; exact ⟨of_decide_eq_true h1, h⟩
 ·rename_i h1; exact absurd h (of_decide_eq_false h1)
end Dv
