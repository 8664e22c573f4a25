/-
  large.Gcd; strings.HasPrefix, TrimPrefix; strconv.ParseUint and (large.Int).Text as typed calls; large.Read.
-/
import Derived.Test.YtlnimeapichgmaaDoorT17
import Derived.Test.YtlnimeapichgmaaDoorTxB
import Derived.Test.YtlnimeapichgmaaDoorW0
set_option linter.constructorNameAsVariable false
set_option linter.unusedSimpArgs false
set_option linter.unusedVariables false
namespace Go.Proofs.YtlnimeapichgmaaDoor
open Go.Am Go.Tx Dv
set_option maxRecDepth 100000
theorem SignN_t (n : Nat) : PureOK Tryd.prog hints 39 [.agg [.v .b false, u32s (wOf n)]] (fun V => V = .v (.i .i64) ((n : Int)).sign) := by
  rw [← is_nat]
  exact Sign_t n
def gcdH (t : Nat × Nat) : List SM := [.cell [.v .b false, u32s (wOf t.1)] true, .cell [.v .b false, u32s (wOf t.2)] true, .cell [.v .b false, .nils] true]
set_option maxHeartbeats 4000000 in
theorem Gcd_t (a b : Int) (hla : ln a ≤ 700000) (hlb : ln b ≤ 700000) : PureOK Tryd.prog hints 42 [IS a, IS b] (fun V => V = IS (Int.gcd a b : Int)) := by
  refine pure_rule (fn := Tryd.f42) (code := bodyOf Tryd.f42) tys_ok (by kernel_rfl) rfl Tryd.func42 (by kernel_rfl) (Nat.le_of_ble_eq_true (by kernel_rfl)) ?_
  refine And.intro rfl ?_
  refine And.intro rfl ?_
  refine loop_wp tys_ok rfl (fun (_ : Nat × Nat) => [(2, .ptr 0 0 0), (3, .ptr 1 0 0), (4, .ptr 2 0 0)]) gcdH
    (fun t => (wOf t.1).length ≤ 700000 ∧ (wOf t.2).length ≤ 700000 ∧ Nat.gcd t.1 t.2 = Int.gcd a b) (fun t => t.2) ?_ (a.natAbs, b.natAbs) ⟨hla, hlb, rfl⟩ ?_
  · rintro ⟨A, B⟩ ⟨h1, h2, h3⟩
    simp only at h1 h2 h3
    refine And.intro rfl ?_
    refine (SignN_t B).mono ?_
    rintro _ rfl
    refine And.intro (fun h => ?_) (fun h => ?_)
    · have hB : 0 < B := by
        have h' : (!decide ((B : Int).sign = 0)) = true := h
        rcases Nat.eq_zero_or_pos B with h0 | h0
        · subst h0; simp at h'
        · exact h0
      refine And.intro rfl ?_
      refine And.intro rfl ?_
      refine (divWords_t A B hB (by omega) (by omega)).mono ?_
      rintro _ ⟨q, r, rfl, q1, r1, q2, r2, q3, r3⟩
      refine And.intro rfl ?_
      refine (Clone_t r (by omega)).mono ?_
      rintro _ rfl
      refine (norm_is false r r1 (by omega)).mono ?_
      rintro _ rfl
      refine And.intro rfl ?_
      refine And.intro rfl ?_
      have er : sg false (wv r) = ((A % B : Nat) : Int) := r3
      have hm : A % B < B := Nat.mod_lt _ hB
      refine ⟨(B, A % B), ⟨h2, Nat.le_trans (wOf_len_mono (Nat.le_of_lt hm)) h2, ?_⟩, hm, ?_⟩
      · show Nat.gcd B (A % B) = _
        rw [← h3, Nat.gcd_comm A B, Nat.gcd_rec B A, Nat.gcd_comm]
      · have e1 : false = decide (sg false (wv r) < 0) := by rw [er]; exact (decide_eq_false (by omega)).symm
        have e2 : wOf (A % B) = wOf (sg false (wv r)).natAbs := by rw [er, Int.natAbs_natCast]
        refine ent_of rfl rfl ?_ ?_
        · exact ⟨⟨rfl, rfl⟩, ⟨rfl, rfl⟩, ⟨rfl, rfl⟩, trivial⟩
        · exact ⟨⟨⟨rfl, rfl, trivial⟩, fun _ => rfl⟩, ⟨⟨e1, e2, trivial⟩, fun _ => rfl⟩, ⟨⟨rfl, trivial, trivial⟩, fun _ => rfl⟩, trivial⟩
    · have hB : B = 0 := by
        have h' : (!decide ((B : Int).sign = 0)) = false := h
        simpa using h'
      subst hB
      refine ⟨rfl, rfl, rfl, ?_⟩
      rw [Nat.gcd_zero_right] at h3
      show SV.agg [.v .b false, u32s (wOf A)] = _
      rw [← h3, is_nat]
  · refine ent_of rfl rfl ?_ ?_
    · exact ⟨⟨rfl, rfl⟩, ⟨rfl, rfl⟩, ⟨rfl, rfl⟩, trivial⟩
    · exact ⟨⟨⟨rfl, rfl, trivial⟩, fun _ => rfl⟩, ⟨⟨rfl, rfl, trivial⟩, fun _ => rfl⟩, ⟨⟨rfl, trivial, trivial⟩, fun _ => rfl⟩, trivial⟩
/-- Does a text begin with another one? -/
def hasP (s p : List UInt8) : Bool := decide ((p.length : Int) ≤ (s.length : Int)) && (s.take p.length == p)
set_option maxHeartbeats 4000000 in
theorem HasPrefix0_t (s p : List UInt8) : PureOK Tryd.prog hints 69 [.v .s s, .v .s p] (fun V => V = .v .b (hasP s p)) := by
  refine pure_rule (fn := Tryd.f69) (code := bodyOf Tryd.f69) tys_ok (by kernel_rfl) rfl Tryd.func69 (by kernel_rfl) (Nat.le_of_ble_eq_true (by kernel_rfl)) ?_
  refine wpg_seq (wpg_region rfl ?_)
  refine wpg_v rfl (fun _ => rfl) rfl rfl ?_
  refine wpg_nil ?_
  refine wpg_seq (wpg_region rfl ?_)
  iterate 6 refine wpg_v rfl (fun _ => rfl) rfl rfl ?_
  cases hc : decide ((p.length : Int) ≤ (s.length : Int)) with
  | true =>
    have hle : (p.length : Int) ≤ (s.length : Int) := of_decide_eq_true hc
    iterate 3 refine wpg_vg rfl rfl rfl rfl (fun _ => rfl) rfl rfl ?_
    refine wpg_cg rfl rfl rfl rfl (fun _ => rfl) ⟨Int.natCast_nonneg _, hle⟩ rfl rfl ?_
    iterate 2 refine wpg_vg rfl rfl rfl rfl (fun _ => rfl) rfl rfl ?_
    refine wpg_pt rfl rfl rfl rfl rfl rfl rfl ?_
    refine wpg_v rfl (fun _ => rfl) rfl rfl ?_
    refine wpg_nil ?_
    show SV.v .b (List.drop 0 (s.take ((p.length : Int).toNat)) == p) = .v .b (hasP s p)
    rw [hasP, hc, List.drop_zero, Int.toNat_natCast, Bool.true_and]
  | false =>
    iterate 6 refine wpg_skip rfl rfl rfl rfl rfl rfl ?_
    refine wpg_pf rfl rfl rfl rfl rfl rfl rfl ?_
    refine wpg_v rfl (fun _ => rfl) rfl rfl ?_
    refine wpg_nil ?_
    show SV.v .b false = .v .b (hasP s p)
    rw [hasP, hc, Bool.false_and]
set_option maxHeartbeats 4000000 in
theorem HasPrefix_t (s p : List UInt8) : PureOK Tryd.prog hints 62 [.v .s s, .v .s p] (fun V => V = .v .b (hasP s p)) := by
  refine pure_rule (fn := Tryd.f62) (code := bodyOf Tryd.f62) tys_ok (by kernel_rfl) rfl Tryd.func62 (by kernel_rfl) (Nat.le_of_ble_eq_true (by kernel_rfl)) ?_
  refine (HasPrefix0_t s p).mono ?_
  rintro _ rfl
  rfl
set_option maxHeartbeats 4000000 in
theorem TrimPrefix0_t (s p : List UInt8) : PureOK Tryd.prog hints 70 [.v .s s, .v .s p] (fun V => V = .v .s (match hasP s p with | true => s.drop p.length | false => s)) := by
  refine pure_rule (fn := Tryd.f70) (code := bodyOf Tryd.f70) tys_ok (by kernel_rfl) rfl Tryd.func70 (by kernel_rfl) (Nat.le_of_ble_eq_true (by kernel_rfl)) ?_
  refine (HasPrefix0_t s p).mono ?_
  rintro _ rfl
  refine And.intro (fun h => ?_) (fun h => ?_)
  · have hle : (p.length : Int) ≤ (s.length : Int) := by
      have h' := h
      simp only [hasP, Bool.and_eq_true, decide_eq_true_eq] at h'
      exact h'.1
    refine And.intro ⟨Int.natCast_nonneg _, hle⟩ ?_
    have e : (s.take s.length).drop ((p.length : Int).toNat) = s.drop p.length := by rw [List.take_length, Int.toNat_natCast]
    rw [h]
    exact congrArg (SV.v .s) e
  · rw [h]
    rfl
set_option maxHeartbeats 4000000 in
theorem TrimPrefix_t (s p : List UInt8) : PureOK Tryd.prog hints 63 [.v .s s, .v .s p] (fun V => V = .v .s (match hasP s p with | true => s.drop p.length | false => s)) := by
  refine pure_rule (fn := Tryd.f63) (code := bodyOf Tryd.f63) tys_ok (by kernel_rfl) rfl Tryd.func63 (by kernel_rfl) (Nat.le_of_ble_eq_true (by kernel_rfl)) ?_
  refine (TrimPrefix0_t s p).mono ?_
  rintro _ rfl
  rfl
theorem dg_digB {s : List UInt8} (h : Dg s) : digB s = true := by
  refine List.all_eq_true.2 fun c hc => ?_
  obtain ⟨h1, h2⟩ := h c hc
  rw [Bool.and_eq_true]
  exact ⟨Nat.ble_eq_true_of_le h1, Nat.ble_eq_true_of_le h2⟩
theorem ParseUint_t (x : List UInt8) (hd : Dg x) (h1 : 1 ≤ x.length) (h9 : x.length ≤ 9) : PureOK Tryd.prog hints 64 [.v .s x, .v (.i .i64) 10, .v (.i .i64) 32] (fun V => V = .tup [.v (.i .u64) (dec x : Nat), .nili]) := by
  refine ⟨fun qs hr => ?_⟩
  simp only [RL, RV, RR, List.cons.injEq, and_true] at hr
  obtain ⟨_, _, rfl, rfl, _, _, rfl, rfl, _, _, rfl, rfl, rfl⟩ := hr
  refine ⟨.tup [.int .u64 (dec x : Nat), .nili], _, ?_, ?_, rfl⟩
  · show (parseG [.str ⟨x.toArray⟩, .int .i64 10, .int .i64 32]).bind (fun v => exp expFuel [] v) = _
    have b0 := dg_digB hd
    have b1 : Nat.ble 1 x.length = true := Nat.ble_eq_true_of_le h1
    have b9 : Nat.ble x.length 9 = true := Nat.ble_eq_true_of_le h9
    have e : parseG [.str ⟨x.toArray⟩, .int .i64 10, .int .i64 32] = some (.tup [.int .u64 (dec x : Nat), .nili]) := by
      simp only [parseG, b0, b1, b9, decide_true, Bool.and_self]
    rw [e]
    rfl
  · simp only [RV, RL, RR]
    exact ⟨_, rfl, _, _, rfl, rfl, _, _, rfl, rfl, rfl⟩
theorem wordsOf_rel : ∀ {a : List Int} {es : List (List PV)}, Wd a → All2 (RR (.i .u32)) a es → wordsOf es = some a
  | [], [], _, _ => rfl
  | x :: a, c :: es, hw, h => by
    obtain ⟨h1, h2⟩ := h
    simp only [RR] at h1
    subst h1
    have hx := hw x List.mem_cons_self
    have : (decide (0 ≤ x) && decide (x < 4294967296)) = true := by rw [decide_eq_true hx.1, decide_eq_true hx.2]; rfl
    simp only [wordsOf, this, wordsOf_rel (fun y hy => hw y (List.mem_cons_of_mem _ hy)) h2, Option.map_some]
theorem Text_t (v : Int) : PureOK Tryd.prog hints 41 [IS v] (fun V => V = .tup [.v .s (textB (decide (v < 0)) (wOf v.natAbs)), .v .b (textF (wOf v.natAbs))]) := by
  refine ⟨fun qs hr => ?_⟩
  obtain ⟨a, ha⟩ : ∃ a, wOf v.natAbs = a := ⟨_, rfl⟩
  have hw : Wd a := ha ▸ wd_wOf _
  change RL [] [.agg [.v .b (decide (v < 0)), u32s (wOf v.natAbs)]] qs at hr
  rw [ha] at hr ⊢
  simp only [RL, RV, RR, List.cons.injEq, and_true] at hr
  obtain ⟨_, _, rfl, ⟨_, rfl, _, _, rfl, rfl, _, _, rfl, hq, rfl⟩, rfl⟩ := hr
  refine ⟨.tup [.str ⟨(textB (decide (v < 0)) a).toArray⟩, .bool (textF a)], _, ?_, ?_, rfl⟩
  · show (textG _).bind (fun v => exp expFuel [] v) = _
    rcases hq with ⟨rfl, rfl⟩ | ⟨es, rfl, hes⟩
    · rfl
    · simp only [textG, wordsOf_rel hw hes, Option.map_some]
      rfl
  · simp only [RV, RL, RR]
    exact ⟨_, rfl, _, _, rfl, rfl, _, _, rfl, rfl, rfl⟩
end Go.Proofs.YtlnimeapichgmaaDoor
