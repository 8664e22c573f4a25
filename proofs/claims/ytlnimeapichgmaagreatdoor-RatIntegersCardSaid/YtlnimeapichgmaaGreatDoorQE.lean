/-
  The laws RatChecks, RatOfs, RatSums, RatProducts, RatCompares.
-/
import Derived.Test.YtlnimeapichgmaaGreatDoorQF
import Derived.Test.YtlnimeapichgmaaGreatDoorQA
import Derived.Test.YtlnimeapichgmaaGreatDoorQB
set_option linter.constructorNameAsVariable false
set_option linter.unusedSimpArgs false
set_option linter.unusedVariables false
namespace Go.Proofs.YtlnimeapichgmaaGreatDoor
open Go.Am Go.Tx Dv Go.Lib
set_option maxRecDepth 100000
def hpL (n : Int) : List SM := [.cell [.v (.i .i64) n] true]
theorem clo_t (n : Int) (s : List UInt8) : OpenOK Tryz.prog hints 59 [.v .s s, .ptr 0 0 0] (hpL n) (fun V hp => V = .v .b (decide (n < (s.length : Int))) ∧ hp = hpL n) := by
  refine open_rule (fn := Tryz.f59) (code := bodyOf Tryz.f59) tys_ok (by kernel_rfl) Tryz.func59 (by kernel_rfl) (Nat.le_of_ble_eq_true (by kernel_rfl)) ?_
  intro base
  refine And.intro rfl ?_
  exact ⟨rfl, rfl⟩
def longB (n : Int) : List (List UInt8) → Bool
  | [] => false
  | s :: r => match decide (n < (s.length : Int)) with
    | true => true
    | false => longB n r
set_option maxHeartbeats 4000000 in
theorem index_t (n : Int) (l : List (List UInt8)) (hl : l.length ≤ 1000) : OpenOK Tryz.prog hints 91 [.v (.l .s) l, .func 59 [] [.ptr 0 0 0]] (hpL n) (fun V hp => (∃ k : Int, V = .v (.i .i64) k ∧ (longB n l = true → 0 ≤ k) ∧ (longB n l = false → k < 0)) ∧ hp = hpL n) := by
  refine open_rule (fn := Tryz.f91) (code := bodyOf Tryz.f91) tys_ok (by kernel_rfl) Tryz.func91 (by kernel_rfl) (Nat.le_of_ble_eq_true (by kernel_rfl)) ?_
  intro base
  refine loop_wp tys_ok rfl (fun (i : Nat) => [(0, .v (.l .s) l), (1, .func 59 [] [.ptr 0 0 0]), (7, .v (.i .i64) (l.length : Int)), (8, .v (.i .i64) (i : Int))]) (fun _ => hpL n)
    (fun i => i ≤ l.length ∧ longB n (l.drop i) = longB n l) (fun i => l.length - i) ?_ 0 ?_ ?_
  · rintro i ⟨hi, he⟩
    refine And.intro (fun h => ?_) (fun h => ?_)
    · have hlt : i < l.length := by have h' : (i : Int) < (l.length : Int) := of_decide_eq_true h; omega
      obtain ⟨s, hs⟩ : ∃ s, l[i] = s := ⟨_, rfl⟩
      have gs : l[(i : Int).toNat]? = some s := by rw [Int.toNat_natCast, List.getElem?_eq_getElem hlt, hs]
      rw [List.drop_eq_getElem_cons hlt, hs, longB] at he
      refine ⟨s, Int.natCast_nonneg i, gs, ?_⟩
      refine (clo_t n s).mono ?_
      rintro _ _ ⟨rfl, rfl⟩
      refine And.intro (fun h2 => ?_) (fun h2 => ?_)
      · have h2' : decide (n < (s.length : Int)) = true := h2
        rw [h2'] at he
        refine ⟨⟨(i : Int), rfl, fun _ => Int.natCast_nonneg i, fun h3 => ?_⟩, rfl⟩
        rw [← he] at h3
        cases h3
      · have h2' : decide (n < (s.length : Int)) = false := h2
        rw [h2'] at he
        have wi : IntKind.i64.wrap ((i : Int) + 1) = ((i + 1 : Nat) : Int) := wrap64 (by omega) (by omega)
        refine ⟨i + 1, ⟨hlt, he⟩, by show l.length - (i + 1) < l.length - i; omega, ?_⟩
        refine ent_of rfl rfl ?_ ?_
        · exact ⟨rfl, ⟨rfl, trivial, ⟨rfl, rfl⟩, trivial⟩, rfl, wi.symm, trivial⟩
        · exact ⟨⟨⟨rfl, trivial⟩, fun _ => rfl⟩, trivial⟩
    · have hi2 : i = l.length := by have h' : ¬ (i : Int) < (l.length : Int) := of_decide_eq_false h; omega
      rw [List.drop_of_length_le (by omega)] at he
      refine ⟨⟨-1, rfl, fun h3 => ?_, fun _ => by decide⟩, rfl⟩
      rw [← he] at h3
      cases h3
  · exact ⟨Nat.zero_le _, rfl⟩
  · refine ent_of rfl rfl ?_ ?_
    · exact ⟨rfl, ⟨rfl, trivial, ⟨rfl, rfl⟩, trivial⟩, rfl, rfl, trivial⟩
    · exact ⟨⟨⟨rfl, trivial⟩, fun _ => rfl⟩, trivial⟩
theorem contains_t (n : Int) (l : List (List UInt8)) (hl : l.length ≤ 1000) : OpenOK Tryz.prog hints 58 [.v (.l .s) l, .func 59 [] [.ptr 0 0 0]] (hpL n) (fun V hp => V = .v .b (longB n l) ∧ hp = hpL n) := by
  refine open_rule (fn := Tryz.f58) (code := bodyOf Tryz.f58) tys_ok (by kernel_rfl) Tryz.func58 (by kernel_rfl) (Nat.le_of_ble_eq_true (by kernel_rfl)) ?_
  intro base
  refine (index_t n l hl).mono ?_
  rintro _ _ ⟨⟨k, rfl, h1, h2⟩, rfl⟩
  refine ⟨congrArg (SV.v .b) ?_, rfl⟩
  cases hb : longB n l with
  | true => exact decide_eq_true (h1 hb)
  | false => exact decide_eq_false (by have := h2 hb; omega)
theorem long_t (n : Int) (l : List (List UInt8)) (hl : l.length ≤ 1000) : PureOK Tryz.prog hints 21 [.v (.i .i64) n, .v (.l .s) l] (fun V => V = .v .b (longB n l)) := by
  refine pure_rule (fn := Tryz.f21) (code := bodyOf Tryz.f21) tys_ok (by kernel_rfl) rfl Tryz.func21 (by kernel_rfl) (Nat.le_of_ble_eq_true (by kernel_rfl)) ?_
  refine (contains_t n l hl).mono ?_
  rintro _ _ ⟨rfl, rfl⟩
  rfl
theorem long2_t (n : Int) (a b : List UInt8) : PureOK Tryz.prog hints 21 [.v (.i .i64) n, .v (.l .s) (sub [a, b] 0 2)] (fun V => V = .v .b (longB n [a, b])) := long_t n [a, b] (show 2 ≤ 1000 by decide)
theorem longB_two {n : Int} {a b : List UInt8} (h : longB n [a, b] = false) : (a.length : Int) ≤ n ∧ (b.length : Int) ≤ n := by
  simp only [longB] at h
  cases h1 : decide (n < (a.length : Int)) with
  | true => rw [h1] at h; cases h
  | false =>
    rw [h1] at h
    simp only at h
    cases h2 : decide (n < (b.length : Int)) with
    | true => rw [h2] at h; cases h
    | false =>
      have := of_decide_eq_false h1
      have := of_decide_eq_false h2
      omega
theorem longB_one {n : Int} {a : List UInt8} (h : longB n [a] = false) : (a.length : Int) ≤ n := by
  simp only [longB] at h
  cases h1 : decide (n < (a.length : Int)) with
  | true => rw [h1] at h; cases h
  | false =>
    have := of_decide_eq_false h1
    omega
theorem ratR_dz {q : Rat} {k : Nat} (hk : k ≤ 2000) (h : dz q k) : ratR q = (ratT q, 0) := ratR_fit (dz_fit hk h)
theorem dz_ratio' {n d : Int} {k : Nat} (hd : d ≠ 0) (h1 : dl n.natAbs ≤ k) (h2 : dl d.natAbs ≤ k) : dz (Rat.divInt n d) k := by
  rcases Int.lt_or_le d 0 with h | h
  · rw [← Rat.neg_divInt_neg]
    obtain ⟨m, hm⟩ : ∃ m : Nat, -d = m := ⟨(-d).toNat, by omega⟩
    rw [hm]
    refine dz_ratio (by omega) (by rw [Int.natAbs_neg]; exact h1) ?_
    have : d.natAbs = m := by omega
    rw [← this]
    exact h2
  · obtain ⟨m, rfl⟩ : ∃ m : Nat, d = m := ⟨d.toNat, by omega⟩
    rw [Int.natAbs_natCast] at h2
    exact dz_ratio (by omega) h1 h2
theorem dz_div {p q : Rat} {k m : Nat} (hp : dz p k) (hq : dz q m) (h0 : q ≠ 0) : dz (p / q) (k + m) := by
  rw [← div_frac]
  obtain ⟨p1, p2⟩ := hp
  obtain ⟨q1, q2⟩ := hq
  have h1 := dl_mul p.num.natAbs q.den
  have h3 := dl_mul p.den q.num.natAbs
  have hn : q.num ≠ 0 := fun h => h0 (Rat.num_eq_zero.1 h)
  refine dz_ratio' (Int.mul_ne_zero (by have := den_pos' p; omega) hn) ?_ ?_
  · rw [Int.natAbs_mul, Int.natAbs_natCast]; omega
  · rw [Int.natAbs_mul, Int.natAbs_natCast]; omega
theorem beq_self (s : List UInt8) : (s == s) = true := by simp
theorem bne_self (s : List UInt8) : (!(s == s)) = false := by simp
set_option maxHeartbeats 4000000 in
theorem RatChecks_l (a b : List UInt8) (hla : a.length ≤ 9223372036854775806) (hlb : b.length ≤ 9223372036854775806) : PureOK Tryz.prog hints 3 [.v .s a, .v .s b] (fun V => V = .v .b true) := by
  refine pure_rule (fn := Tryz.f3) (code := bodyOf Tryz.f3) tys_ok (by kernel_rfl) rfl Tryz.func3 (by kernel_rfl) (Nat.le_of_ble_eq_true (by kernel_rfl)) ?_
  have c1 := RCheck_t a hla
  have c2 := RatError_t a hla
  have c3 := RCheck_t b hlb
  have c4 := RatError_t b hlb
  have c5 := CheckAll2_t a b hla hlb
  have c6 := RatErrors2_t a b hla hlb
  obtain ⟨A, eA⟩ : ∃ x, ratErr a = x := ⟨_, rfl⟩
  obtain ⟨B, eB⟩ : ∃ x, ratErr b = x := ⟨_, rfl⟩
  obtain ⟨C, eC⟩ : ∃ x, twoQ a b = x := ⟨_, rfl⟩
  rw [eA] at c1 c2
  rw [eB] at c3 c4
  rw [eC] at c5 c6
  have hA : decide (A = A) = true := decide_eq_true rfl
  have hB : decide (B = B) = true := decide_eq_true rfl
  have hC : decide (C = C) = true := decide_eq_true rfl
  refine ratFact_t.mono ?_
  rintro _ rfl
  refine And.intro (fun h => nomatch h) (fun _ => ?_)
  repeat (first | refine wpg_skipc ?_ | refine wpg_next ?_ | refine wpg_blkout ?_)
  first | refine wpg_seq (wpg_region (id := 3) rfl ?_) | refine wpg_seq (wpg_seq (wpg_region (id := 3) rfl ?_))
  iterate 2 refine wpg_v rfl (fun _ => rfl) rfl rfl ?_
  refine wpg_m rfl (fun _ => rfl) rfl rfl ?_
  refine wpg_v rfl (fun _ => rfl) rfl rfl ?_
  refine wpg_nil ?_
  repeat (first | refine wpg_skipc ?_ | refine wpg_next ?_ | refine wpg_blkout ?_)
  first | refine wpg_seq (wpg_region (id := 4) rfl ?_) | refine wpg_seq (wpg_seq (wpg_region (id := 4) rfl ?_)) | refine wpg_region (id := 4) rfl ?_ | refine wpg_seq (wpg_block rfl (wpg_seq (wpg_region (id := 4) rfl ?_))) | refine wpg_block rfl (wpg_seq (wpg_region (id := 4) rfl ?_))
  refine wpg_v rfl (fun _ => rfl) rfl rfl ?_
  refine wpg_op rfl ((c1).mono ?_)
  rintro _ rfl
  refine wpg_put rfl rfl ?_
  refine wpg_v rfl (fun _ => rfl) rfl rfl ?_
  refine wpg_op rfl ((c2).mono ?_)
  rintro _ rfl
  refine wpg_put rfl rfl ?_
  refine wpg_v rfl (fun _ => rfl) rfl rfl ?_
  refine wpg_v rfl (fun _ => rfl) rfl rfl ?_
  refine wpg_vg rfl rfl rfl hA (fun _ => rfl) rfl rfl ?_
  refine wpg_run rfl rfl rfl hA ((c3).mono ?_)
  rintro _ rfl
  refine wpg_put rfl rfl ?_
  refine wpg_vg rfl rfl rfl hA (fun _ => rfl) rfl rfl ?_
  refine wpg_run rfl rfl rfl hA ((c4).mono ?_)
  rintro _ rfl
  refine wpg_put rfl rfl ?_
  refine wpg_vg rfl rfl rfl hA (fun _ => rfl) rfl rfl ?_
  refine wpg_pt rfl rfl rfl hA rfl rfl rfl ?_
  refine wpg_v rfl (fun _ => rfl) rfl rfl ?_
  refine wpg_vg rfl rfl rfl hB (fun _ => rfl) rfl rfl ?_
  refine wpg_run rfl rfl rfl hB (And.intro (show 0 + 2 ≤ 2 by decide) ((c5).mono ?_))
  rintro _ rfl
  refine wpg_put rfl rfl ?_
  refine wpg_vg rfl rfl rfl hB (fun _ => rfl) rfl rfl ?_
  refine wpg_run rfl rfl rfl hB (And.intro (show 0 + 2 ≤ 2 by decide) ((c6).mono ?_))
  rintro _ rfl
  refine wpg_put rfl rfl ?_
  refine wpg_vg rfl rfl rfl hB (fun _ => rfl) rfl rfl ?_
  refine wpg_pt rfl rfl rfl hB rfl rfl rfl ?_
  refine wpg_v rfl (fun _ => rfl) rfl rfl ?_
  refine wpg_nil ?_
  repeat (first | refine wpg_next ?_ | refine wpg_blkout ?_)
  show SV.v .b (decide (C = C)) = _
  rw [hC]
set_option maxHeartbeats 4000000 in
theorem RatOfs_l (n d : Int) (hn0 : -9223372036854775808 ≤ n) (hn1 : n < 9223372036854775808) (hd0 : -9223372036854775808 ≤ d) (hd1 : d < 9223372036854775808) : PureOK Tryz.prog hints 4 [.v (.i .i64) n, .v (.i .i64) d] (fun V => V = .v .b true) := by
  refine pure_rule (fn := Tryz.f4) (code := bodyOf Tryz.f4) tys_ok (by kernel_rfl) rfl Tryz.func4 (by kernel_rfl) (Nat.le_of_ble_eq_true (by kernel_rfl)) ?_
  have hO := QOf_t n d hn0 hn1 hd0 hd1
  refine ratFact_t.mono ?_
  rintro _ rfl
  refine And.intro (fun h => nomatch h) (fun _ => ?_)
  cases h0 : decide (d = 0) with
  | true =>
    have e : ofR n d = ([], 10) := by rw [ofR, h0]
    rw [e] at hO
    refine hO.mono ?_
    rintro _ rfl
    refine And.intro (fun _ => ?_) (fun h => by first | (cases h; done) | exact (nf h0 h).elim)
    repeat (first | refine wpg_skipc ?_ | refine wpg_next ?_ | refine wpg_blkout ?_)
    first | refine wpg_seq (wpg_region (id := 5) rfl ?_) | refine wpg_seq (wpg_seq (wpg_region (id := 5) rfl ?_)) | refine wpg_region (id := 5) rfl ?_ | refine wpg_seq (wpg_block rfl (wpg_seq (wpg_region (id := 5) rfl ?_))) | refine wpg_block rfl (wpg_seq (wpg_region (id := 5) rfl ?_))
    refine wpg_v rfl (fun _ => rfl) rfl rfl ?_
    refine wpg_v rfl (fun _ => rfl) rfl rfl ?_
    refine wpg_v rfl (fun _ => rfl) rfl rfl ?_
    refine wpg_vg rfl rfl rfl rfl (fun _ => rfl) rfl rfl ?_
    refine wpg_vg rfl rfl rfl rfl (fun _ => rfl) rfl rfl ?_
    refine wpg_pt rfl rfl rfl rfl rfl rfl rfl ?_
    refine wpg_v rfl (fun _ => rfl) rfl rfl ?_
    refine wpg_nil ?_
    repeat (first | refine wpg_next ?_ | refine wpg_blkout ?_)
    rfl
  | false =>
    have hd : d ≠ 0 := of_decide_eq_false h0
    have hz1 : dl n.natAbs ≤ 19 := dl_le (by decide) (by omega)
    have hz2 : dl d.natAbs ≤ 19 := dl_le (by decide) (by omega)
    have hz := dz_ratio' (n := n) hd hz1 hz2
    have e : ofR n d = (ratT (Rat.divInt n d), 0) := by
      simp only [ofR, h0]
      exact ratR_dz (by decide) hz
    rw [e] at hO
    have i1 := RatInt_t n hn0 hn1
    have i2 := RatInt_t d hd0 hd1
    have zn : dz (n : Rat) 19 := ⟨by rw [Rat.num_intCast]; exact hz1, by rw [Rat.den_intCast]; exact Nat.le_trans (Nat.le_of_eq dl_one) (by decide)⟩
    have zd : dz (d : Rat) 19 := ⟨by rw [Rat.num_intCast]; exact hz2, by rw [Rat.den_intCast]; exact Nat.le_trans (Nat.le_of_eq dl_one) (by decide)⟩
    have hD := RatDiv_t (n : Rat) (d : Rat) (by decide) zn zd (fun h => hd (Rat.intCast_eq_zero_iff.1 h))
    rw [← Rat.divInt_eq_div] at hD
    obtain ⟨R, eR⟩ : ∃ x, ratT (Rat.divInt n d) = x := ⟨_, rfl⟩
    rw [eR] at hO hD
    have hR := beq_self R
    refine hO.mono ?_
    rintro _ rfl
    refine And.intro (fun h => by first | (cases h; done) | exact (nf h h0).elim) (fun _ => ?_)
    repeat (first | refine wpg_skipc ?_ | refine wpg_next ?_ | refine wpg_blkout ?_)
    first | refine wpg_seq (wpg_region (id := 6) rfl ?_) | refine wpg_seq (wpg_seq (wpg_region (id := 6) rfl ?_)) | refine wpg_region (id := 6) rfl ?_ | refine wpg_seq (wpg_block rfl (wpg_seq (wpg_region (id := 6) rfl ?_))) | refine wpg_block rfl (wpg_seq (wpg_region (id := 6) rfl ?_))
    refine wpg_v rfl (fun _ => rfl) rfl rfl ?_
    refine wpg_v rfl (fun _ => rfl) rfl rfl ?_
    refine wpg_v rfl (fun _ => rfl) rfl rfl ?_
    refine wpg_vg rfl rfl rfl rfl (fun _ => rfl) rfl rfl ?_
    refine wpg_vg rfl rfl rfl rfl (fun _ => rfl) rfl rfl ?_
    refine wpg_run rfl rfl rfl rfl ((i1).mono ?_)
    rintro _ rfl
    refine wpg_put rfl rfl ?_
    refine wpg_vg rfl rfl rfl rfl (fun _ => rfl) rfl rfl ?_
    refine wpg_run rfl rfl rfl rfl ((i2).mono ?_)
    rintro _ rfl
    refine wpg_put rfl rfl ?_
    refine wpg_run rfl rfl rfl rfl ((hD).mono ?_)
    rintro _ rfl
    refine wpg_put rfl rfl ?_
    refine wpg_vg rfl rfl rfl rfl (fun _ => rfl) rfl rfl ?_
    refine wpg_pt rfl rfl rfl rfl rfl rfl rfl ?_
    refine wpg_v rfl (fun _ => rfl) rfl rfl ?_
    refine wpg_nil ?_
    repeat (first | refine wpg_next ?_ | refine wpg_blkout ?_)
    show SV.v .b (R == R) = _
    rw [hR]
theorem QNeg_t (a : List UInt8) (hla : a.length ≤ 9223372036854775806) : ∃ z, PureOK Tryz.prog hints 20 [.v .s a] (fun V => V = rs (z, ratErr a)) ∧ (ratErr a ≠ 0 → z = []) ∧ (∀ p, fitQ p = true → a = ratT p → z = ratT (-p)) := by
  by_cases h : ratErr a = 0
  · obtain ⟨p, rfl, hp⟩ := ratErr_zero h
    refine ⟨ratT (-p), ?_, fun hn => absurd h hn, fun q hq e => by rw [ratT_inj e]⟩
    rw [h]
    exact QNeg_ok p hp
  · refine ⟨[], QNeg_err a hla h, fun _ => rfl, fun p hp e => ?_⟩
    rw [e] at h
    exact absurd (ratErr_ratT hp) h
end Go.Proofs.YtlnimeapichgmaaGreatDoor
