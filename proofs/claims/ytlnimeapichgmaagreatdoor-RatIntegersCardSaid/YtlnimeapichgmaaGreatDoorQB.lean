/-
  RatInt, RatFloor of the reference; (large.Int).Small, rat.Integer.
-/
import Derived.Test.YtlnimeapichgmaaGreatDoorQ7
import Derived.Test.YtlnimeapichgmaaGreatDoorQ9
import Derived.Test.YtlnimeapichgmaaGreatDoorR4
set_option linter.constructorNameAsVariable false
set_option linter.unusedSimpArgs false
set_option linter.unusedVariables false
namespace Go.Proofs.YtlnimeapichgmaaGreatDoor
open Go.Am Go.Tx Dv Go.Lib
set_option maxRecDepth 100000
def digs : List UInt8 := [48, 49, 50, 51, 52, 53, 54, 55, 56, 57]
theorem digs_fin : ∀ d : Fin 10, (digs.take (d.val + 1)).drop d.val = [UInt8.ofNat (48 + d.val)] := by decide +kernel
theorem digs_at {d : Nat} (h : d < 10) : (digs.take (d + 1)).drop d = [UInt8.ofNat (48 + d)] := digs_fin ⟨d, h⟩
theorem digits_step {m : Nat} (h : m ≠ 0) : decDigits m = (match decide (m / 10 = 0) with | true => [] | false => decDigits (m / 10)) ++ [UInt8.ofNat (48 + m % 10)] := by
  by_cases hm : 10 ≤ m
  · rw [decDigits.eq_1 m, dif_neg (by omega), decide_eq_false (by omega)]
  · rw [decDigits_one (by omega), decide_eq_true (by omega), Nat.mod_eq_of_lt (by omega)]
    rfl
/-- What is still to be written. -/
def restD (m : Nat) (s : List UInt8) : List UInt8 := match s with
  | [] => decDigits m
  | _ => (match decide (m = 0) with | true => [] | false => decDigits m) ++ s
theorem restD_step {m : Nat} {s : List UInt8} (h : 0 < m ∨ s = []) : restD (m / 10) (UInt8.ofNat (48 + m % 10) :: s) = restD m s := by
  by_cases hm : m = 0
  · subst hm
    have hs : s = [] := by rcases h with h | h <;> first | omega | exact h
    subst hs
    show (match decide (0 / 10 = 0) with | true => [] | false => decDigits (0 / 10)) ++ [UInt8.ofNat (48 + 0 % 10)] = decDigits 0
    rw [decDigits_one (by decide)]
    rfl
  · have hd := digits_step hm
    cases s with
    | nil =>
      show (match decide (m / 10 = 0) with | true => [] | false => decDigits (m / 10)) ++ [UInt8.ofNat (48 + m % 10)] = decDigits m
      exact hd.symm
    | cons c l =>
      show (match decide (m / 10 = 0) with | true => [] | false => decDigits (m / 10)) ++ (UInt8.ofNat (48 + m % 10) :: c :: l) = (match decide (m = 0) with | true => [] | false => decDigits m) ++ (c :: l)
      rw [decide_eq_false hm]
      simp only
      rw [hd, List.append_assoc]
      rfl
theorem restD_len (m : Nat) (s : List UInt8) : s.length ≤ (restD m s).length := by
  cases s with
  | nil => exact Nat.zero_le _
  | cons c l =>
    show (c :: l).length ≤ ((match decide (m = 0) with | true => [] | false => decDigits m) ++ (c :: l)).length
    rw [List.length_append]
    omega
def emp (s : List UInt8) : Nat := match s with
  | [] => 1
  | _ => 0
set_option maxHeartbeats 8000000 in
theorem RatIntN_t (n : Nat) (hn : (n : Int) < 9223372036854775808) : PureOK Tryz.prog hints 17 [.v (.i .i64) (n : Int)] (fun V => V = .v .s (decDigits n)) := by
  refine pure_rule (fn := Tryz.f17) (code := bodyOf Tryz.f17) tys_ok (by kernel_rfl) rfl Tryz.func17 (by kernel_rfl) (Nat.le_of_ble_eq_true (by kernel_rfl)) ?_
  refine And.intro (fun _ => ?_) (fun h => ?_)
  · refine loop_wp tys_ok rfl (fun (t : Nat × List UInt8) => [(0, .v (.i .i64) (t.1 : Int)), (3, .v .s t.2)]) (fun _ => [])
      (fun t => t.1 ≤ n ∧ (t.2 = [] → t.1 = n) ∧ restD t.1 t.2 = decDigits n) (fun t => 2 * t.1 + emp t.2) ?_ (n, []) ?_ ?_
    · rintro ⟨m, s⟩ ⟨h1, h3, h4⟩
      simp only at h1 h3 h4
      have h2 : s.length ≤ 19 := by
        have := restD_len m s
        rw [h4] at this
        exact Nat.le_trans this (dl_le (by decide) (by omega))
      have step : 0 < m ∨ s = [] → ∃ m' s', (m', s') = (m / 10, UInt8.ofNat (48 + m % 10) :: s) ∧ (m' ≤ n ∧ (s' = [] → m' = n) ∧ restD m' s' = decDigits n) ∧ 2 * m' + emp s' < 2 * m + emp s := fun hc => by
        refine ⟨m / 10, UInt8.ofNat (48 + m % 10) :: s, rfl, ⟨by omega, fun h => (List.cons_ne_nil _ _ h).elim, (restD_step hc).trans h4⟩, ?_⟩
        · show 2 * (m / 10) + 0 < 2 * m + emp s
          rcases hc with h | h
          · omega
          · subst h; show 2 * (m / 10) + 0 < 2 * m + 1; omega
      have em : (m : Int).tmod 10 = ((m % 10 : Nat) : Int) := rfl
      have wm : IntKind.i64.wrap ((m : Int).tmod 10 + 1) = ((m % 10 + 1 : Nat) : Int) := by rw [em]; exact wrap64 (by omega) (by omega)
      have wq : IntKind.i64.wrap ((m : Int).tdiv 10) = ((m / 10 : Nat) : Int) := wrap64 (show -9223372036854775808 ≤ ((m / 10 : Nat) : Int) by omega) (show ((m / 10 : Nat) : Int) < 9223372036854775808 by omega)
      have hsl : List.drop ((m : Int).tmod 10).toNat (List.take (IntKind.i64.wrap ((m : Int).tmod 10 + 1)).toNat digs) = [UInt8.ofNat (48 + m % 10)] := by
        rw [wm, em, Int.toNat_natCast, Int.toNat_natCast]
        exact digs_at (by omega)
      cases b1 : decide ((0 : Int) < (m : Int))
      rotate_left 1
      repeat (first | refine wpg_skipc ?_ | refine wpg_next ?_ | refine wpg_blkout ?_)
      first | refine wpg_seq (wpg_region (id := 3) rfl ?_) | refine wpg_seq (wpg_seq (wpg_region (id := 3) rfl ?_)) | refine wpg_region (id := 3) rfl ?_ | refine wpg_seq (wpg_block rfl (wpg_seq (wpg_region (id := 3) rfl ?_))) | refine wpg_block rfl (wpg_seq (wpg_region (id := 3) rfl ?_))
      refine wpg_v rfl (fun _ => rfl) rfl rfl ?_
      refine wpg_v rfl (fun _ => rfl) rfl rfl ?_
      refine wpg_v rfl (fun _ => rfl) rfl rfl ?_
      refine wpg_skip rfl rfl rfl b1 rfl rfl ?_
      refine wpg_skip rfl rfl rfl b1 rfl rfl ?_
      refine wpg_pt rfl rfl rfl b1 rfl rfl rfl ?_
      refine wpg_nil ?_
      repeat (first | refine wpg_next ?_ | refine wpg_blkout ?_)
      refine And.intro (fun _ => ?_) (fun h => by first | (cases h; done) | exact (nf b1 h).elim)
      have hc : 0 < m ∨ s = [] := .inl (by have := of_decide_eq_true b1; omega)
      rotate_left 1
      cases b2 : s == []
      repeat (first | refine wpg_skipc ?_ | refine wpg_next ?_ | refine wpg_blkout ?_)
      first | refine wpg_seq (wpg_region (id := 3) rfl ?_) | refine wpg_seq (wpg_seq (wpg_region (id := 3) rfl ?_)) | refine wpg_region (id := 3) rfl ?_ | refine wpg_seq (wpg_block rfl (wpg_seq (wpg_region (id := 3) rfl ?_))) | refine wpg_block rfl (wpg_seq (wpg_region (id := 3) rfl ?_))
      refine wpg_v rfl (fun _ => rfl) rfl rfl ?_
      refine wpg_v rfl (fun _ => rfl) rfl rfl ?_
      refine wpg_v rfl (fun _ => rfl) rfl rfl ?_
      refine wpg_vg rfl rfl rfl b1 (fun _ => rfl) rfl rfl ?_
      refine wpg_vg rfl rfl rfl b1 (fun _ => rfl) rfl rfl ?_
      refine wpg_pf rfl rfl rfl b1 rfl rfl rfl ?_
      refine wpg_nil ?_
      repeat (first | refine wpg_next ?_ | refine wpg_blkout ?_)
      refine And.intro (fun h => by first | (cases h; done) | exact (nf h b2).elim) (fun _ => ?_)
      have hm0 : m = 0 := by have := of_decide_eq_false b1; omega
      have e : s = decDigits n := by
        rw [hm0] at h4
        cases s with
        | nil => cases b2
        | cons c l => rw [← h4]; rfl
      exact congrArg (SV.v .s) e
      repeat (first | refine wpg_skipc ?_ | refine wpg_next ?_ | refine wpg_blkout ?_)
      first | refine wpg_seq (wpg_region (id := 3) rfl ?_) | refine wpg_seq (wpg_seq (wpg_region (id := 3) rfl ?_)) | refine wpg_region (id := 3) rfl ?_ | refine wpg_seq (wpg_block rfl (wpg_seq (wpg_region (id := 3) rfl ?_))) | refine wpg_block rfl (wpg_seq (wpg_region (id := 3) rfl ?_))
      refine wpg_v rfl (fun _ => rfl) rfl rfl ?_
      refine wpg_v rfl (fun _ => rfl) rfl rfl ?_
      refine wpg_v rfl (fun _ => rfl) rfl rfl ?_
      refine wpg_vg rfl rfl rfl b1 (fun _ => rfl) rfl rfl ?_
      refine wpg_vg rfl rfl rfl b1 (fun _ => rfl) rfl rfl ?_
      refine wpg_pf rfl rfl rfl b1 rfl rfl rfl ?_
      refine wpg_nil ?_
      repeat (first | refine wpg_next ?_ | refine wpg_blkout ?_)
      refine And.intro (fun _ => ?_) (fun h => by first | (cases h; done) | exact (nf b2 h).elim)
      have hc : 0 < m ∨ s = [] := .inr (eq_of_beq b2)
      all_goals
        obtain ⟨m', s', he, hinv, hme⟩ := step hc
        cases he
        refine And.intro (by decide) ?_
        refine And.intro (by decide) ?_
        refine And.intro (show 0 ≤ (m : Int).tmod 10 ∧ (m : Int).tmod 10 ≤ IntKind.i64.wrap ((m : Int).tmod 10 + 1) ∧ IntKind.i64.wrap ((m : Int).tmod 10 + 1) ≤ 10 by rw [wm, em]; omega) ?_
        refine And.intro (by show (List.drop ((m : Int).tmod 10).toNat (List.take (IntKind.i64.wrap ((m : Int).tmod 10 + 1)).toNat digs)).length + s.length ≤ 9223372036854775807; rw [hsl]; simp only [List.length_singleton]; omega) ?_
        refine And.intro (by decide) ?_
        refine ⟨(m / 10, UInt8.ofNat (48 + m % 10) :: s), hinv, hme, ?_⟩
        refine ent_of rfl rfl ?_ ?_
        · have q : UInt8.ofNat (48 + m % 10) :: s = List.drop ((m : Int).tmod 10).toNat (List.take (IntKind.i64.wrap ((m : Int).tmod 10 + 1)).toNat digs) ++ s := by rw [hsl]; rfl
          exact ⟨wq.symm, q, trivial⟩
        · exact trivial
    · exact ⟨Nat.le_refl _, fun _ => rfl, rfl⟩
    · refine ent_of rfl rfl ?_ ?_
      · exact ⟨rfl, rfl, trivial⟩
      · exact trivial
  · have h' : ¬ 0 ≤ (n : Int) := of_decide_eq_false h
    omega
theorem ratT_int (n : Int) : ratT (n : Rat) = mns (decide (n < 0)) (decDigits n.natAbs) := by
  rw [ratT, Rat.num_intCast, Rat.den_intCast]
  show mns _ (decDigits n.natAbs ++ fracT 1) = _
  rw [show fracT 1 = [] from rfl, List.append_nil]
set_option maxHeartbeats 4000000 in
theorem RatInt_t (n : Int) (h0 : -9223372036854775808 ≤ n) (h1 : n < 9223372036854775808) : PureOK Tryz.prog hints 17 [.v (.i .i64) n] (fun V => V = .v .s (ratT (n : Rat))) := by
  rw [ratT_int]
  by_cases hn : 0 ≤ n
  · obtain ⟨k, rfl⟩ : ∃ k : Nat, n = k := ⟨n.toNat, by omega⟩
    refine (RatIntN_t k h1).mono ?_
    rintro _ rfl
    rw [decide_eq_false (by omega : ¬ (k : Int) < 0), Int.natAbs_natCast]
    rfl
  · rw [decide_eq_true (by omega : n < 0)]
    refine pure_rule (fn := Tryz.f17) (code := bodyOf Tryz.f17) tys_ok (by kernel_rfl) rfl Tryz.func17 (by kernel_rfl) (Nat.le_of_ble_eq_true (by kernel_rfl)) ?_
    refine And.intro (fun h => absurd (show 0 ≤ n from of_decide_eq_true h) hn) (fun _ => ?_)
    refine And.intro (fun h => ?_) (fun h => ?_)
    · have h' : n = -9223372036854775808 := of_decide_eq_true h
      subst h'
      have hc : Cn [57, 50, 50, 51, 51, 55, 50, 48, 51, 54, 56, 53, 52, 55, 55, 53, 56, 48, 56] := cnB_iff.1 (by decide +kernel)
      have hd := hc.eq
      have hv : dec [57, 50, 50, 51, 51, 55, 50, 48, 51, 54, 56, 53, 52, 55, 55, 53, 56, 48, 56] = 9223372036854775808 := by decide +kernel
      rw [hv] at hd
      show SV.v .s _ = SV.v .s (45 :: decDigits 9223372036854775808)
      rw [hd]
    · have h' : ¬ n = -9223372036854775808 := of_decide_eq_false h
      have wn : IntKind.i64.wrap (0 - n) = ((n.natAbs : Nat) : Int) := by
        rw [wrap64 (by omega) (by omega)]
        omega
      have hR := RatIntN_t n.natAbs (by omega)
      rw [← wn] at hR
      refine hR.mono ?_
      rintro _ rfl
      have hl : dl n.natAbs ≤ 19 := dl_le (by decide) (by omega)
      unfold dl at hl
      exact And.intro (by show 1 + (decDigits n.natAbs).length ≤ 9223372036854775807; omega) rfl
theorem divInt_one' (n : Int) : Rat.divInt n 1 = (n : Rat) := by
  obtain ⟨h1, h2⟩ := ratio_num (n := n) (d := 1) (by decide)
  rw [Int.gcd_one, Int.natCast_one, Int.ediv_one] at h1 h2
  refine Rat.ext ?_ ?_
  · rw [h1, Rat.num_intCast]
  · rw [Rat.den_intCast]; omega
set_option maxHeartbeats 4000000 in
theorem RatFloor_t (q : Rat) {k : Nat} (hk : k ≤ 40000) (hq : dz q k) : PureOK Tryz.prog hints 33 [.v .s (ratT q)] (fun V => V = .v .s (ratT ((q.num / (q.den : Int) : Int) : Rat))) := by
  have hP := parts_t q (by omega) hq
  obtain ⟨q1, q2⟩ := hq
  have q1' : (decDigits q.num.natAbs).length ≤ k := q1
  have q2' : (decDigits q.den).length ≤ k := q2
  have hD := NatDiv_t (decDigits q.num.natAbs) (decDigits q.den) (dg_digits _) (cn_digits _) (by rw [dec_digits]; exact q.den_pos) (by omega) (by omega)
  rw [dec_digits, dec_digits] at hD
  have hlq : dl (q.num.natAbs / q.den) ≤ k := Nat.le_trans (dl_mono (Nat.div_le_self _ _)) q1
  have hA := NatAddD_t (q.num.natAbs / q.den) 1 (by omega) (by rw [dl_one]; omega)
  rw [decDigits_one (i := 1) (by decide)] at hA
  have hla := dl_add (q.num.natAbs / q.den) 1
  rw [dl_one] at hla
  have hz := zero_text (q.num.natAbs % q.den)
  have dq := dm_q q.num (q.den : Int) (den_pos' q)
  have dr := dm_r q.num (q.den : Int) (den_pos' q)
  rw [Int.natAbs_natCast] at dq dr
  have fin : ∀ (m : Bool) (x : Nat), dl x ≤ 90000 → PureOK Tryz.prog hints 51 [.v .b m, .v .s (decDigits x), .v .s [49]] (fun V => V = .v .s (ratT ((sg m (x : Int) : Int) : Rat))) := fun m x hx => by
    have hC := Canon_t m x 1 (by decide) hx (by rw [dl_one]; omega)
    rw [Int.natCast_one, divInt_one', decDigits_one (i := 1) (by decide)] at hC
    exact hC
  refine pure_rule (fn := Tryz.f33) (code := bodyOf Tryz.f33) tys_ok (by kernel_rfl) rfl Tryz.func33 (by kernel_rfl) (Nat.le_of_ble_eq_true (by kernel_rfl)) ?_
  obtain ⟨m, hm⟩ : ∃ m, decide (q.num < 0) = m := ⟨_, rfl⟩
  rw [hm] at hP dq dr
  obtain ⟨X, hX⟩ : ∃ x, q.num.natAbs / q.den = x := ⟨_, rfl⟩
  obtain ⟨Y, hY⟩ : ∃ x, q.num.natAbs % q.den = x := ⟨_, rfl⟩
  obtain ⟨Z, hZ⟩ : ∃ x, q.num / (q.den : Int) = x := ⟨_, rfl⟩
  rw [hX, hY, hZ] at dq dr
  rw [hX, hY] at hD
  rw [hX] at hA hlq hla
  rw [hY] at hz
  rw [hZ]
  refine hP.mono ?_
  rintro _ rfl
  refine hD.mono ?_
  rintro _ rfl
  cases m with
  | false =>
    have e := (dq (by simp only [sg]; omega)).1
    repeat (first | refine wpg_skipc ?_ | refine wpg_next ?_ | refine wpg_blkout ?_)
    first | refine wpg_seq (wpg_region (id := 3) rfl ?_) | refine wpg_seq (wpg_seq (wpg_region (id := 3) rfl ?_)) | refine wpg_region (id := 3) rfl ?_ | refine wpg_seq (wpg_block rfl (wpg_seq (wpg_region (id := 3) rfl ?_))) | refine wpg_block rfl (wpg_seq (wpg_region (id := 3) rfl ?_))
    refine wpg_v rfl (fun _ => rfl) rfl rfl ?_
    refine wpg_v rfl (fun _ => rfl) rfl rfl ?_
    refine wpg_skip rfl rfl rfl rfl rfl rfl ?_
    refine wpg_skip rfl rfl rfl rfl rfl rfl ?_
    refine wpg_pf rfl rfl rfl rfl rfl rfl rfl ?_
    refine wpg_nil ?_
    repeat (first | refine wpg_next ?_ | refine wpg_blkout ?_)
    refine And.intro (fun h => nomatch h) (fun _ => ?_)
    refine (fin false X (by omega)).mono ?_
    rintro _ rfl
    rw [e]
    rfl
  | true =>
    cases b1 : decDigits Y == [48] with
    | true =>
      have hn : (!(decDigits Y == [48])) = false := by rw [b1]; rfl
      rw [b1] at hz
      have h0 := of_decide_eq_true hz.symm
      have e := (dq (by simp only [sg]; omega)).1
      repeat (first | refine wpg_skipc ?_ | refine wpg_next ?_ | refine wpg_blkout ?_)
      first | refine wpg_seq (wpg_region (id := 3) rfl ?_) | refine wpg_seq (wpg_seq (wpg_region (id := 3) rfl ?_)) | refine wpg_region (id := 3) rfl ?_ | refine wpg_seq (wpg_block rfl (wpg_seq (wpg_region (id := 3) rfl ?_))) | refine wpg_block rfl (wpg_seq (wpg_region (id := 3) rfl ?_))
      refine wpg_v rfl (fun _ => rfl) rfl rfl ?_
      refine wpg_v rfl (fun _ => rfl) rfl rfl ?_
      refine wpg_vg rfl rfl rfl rfl (fun _ => rfl) rfl rfl ?_
      refine wpg_vg rfl rfl rfl rfl (fun _ => rfl) rfl rfl ?_
      refine wpg_pt rfl rfl rfl rfl rfl rfl rfl ?_
      refine wpg_nil ?_
      repeat (first | refine wpg_next ?_ | refine wpg_blkout ?_)
      refine And.intro (fun h => by first | (cases h; done) | exact (nf h hn).elim) (fun _ => ?_)
      refine (fin true X (by omega)).mono ?_
      rintro _ rfl
      rw [e]
      rfl
    | false =>
      have hn : (!(decDigits Y == [48])) = true := by rw [b1]; rfl
      rw [b1] at hz
      have h0 := of_decide_eq_false hz.symm
      have e := (dr (by simp only [sg]; omega)).1
      repeat (first | refine wpg_skipc ?_ | refine wpg_next ?_ | refine wpg_blkout ?_)
      first | refine wpg_seq (wpg_region (id := 3) rfl ?_) | refine wpg_seq (wpg_seq (wpg_region (id := 3) rfl ?_)) | refine wpg_region (id := 3) rfl ?_ | refine wpg_seq (wpg_block rfl (wpg_seq (wpg_region (id := 3) rfl ?_))) | refine wpg_block rfl (wpg_seq (wpg_region (id := 3) rfl ?_))
      refine wpg_v rfl (fun _ => rfl) rfl rfl ?_
      refine wpg_v rfl (fun _ => rfl) rfl rfl ?_
      refine wpg_vg rfl rfl rfl rfl (fun _ => rfl) rfl rfl ?_
      refine wpg_vg rfl rfl rfl rfl (fun _ => rfl) rfl rfl ?_
      refine wpg_pt rfl rfl rfl rfl rfl rfl rfl ?_
      refine wpg_nil ?_
      repeat (first | refine wpg_next ?_ | refine wpg_blkout ?_)
      refine And.intro (fun _ => ?_) (fun h => by first | (cases h; done) | exact (nf hn h).elim)
      refine hA.mono ?_
      rintro _ rfl
      refine (fin true (X + 1) (by omega)).mono ?_
      rintro _ rfl
      have e2 : sg true ((X + 1 : Nat) : Int) = Z := by rw [← e]; simp only [sg]; omega
      rw [e2]
      rfl
theorem or_low2 {c x : Int} {s : Nat} (hs : s ≤ 32) (hc0 : 0 ≤ c) (hc1 : c < 2 ^ s) (hx0 : 0 ≤ x) (hx1 : x < 4294967296) :
    IntKind.u64.wrap ((BitVec.ofInt IntKind.u64.bits c ||| BitVec.ofInt IntKind.u64.bits (IntKind.u64.wrap (IntKind.u64.wrap x * 2 ^ min (Int.toNat (s : Int)) IntKind.u64.bits))).toNat : Int) = x * 2 ^ s + c := by
  obtain ⟨n, rfl⟩ : ∃ n : Nat, x = n := ⟨x.toNat, by omega⟩
  obtain ⟨m, rfl⟩ : ∃ m : Nat, c = m := ⟨c.toNat, by omega⟩
  have hm : m < 2 ^ s := by
    have e : ((2 : Nat) : Int) = 2 := rfl
    rw [← e, ← Int.natCast_pow] at hc1
    exact Int.ofNat_lt.1 hc1
  have hp : (2 : Nat) ^ s ≤ 2 ^ 32 := Nat.pow_le_pow_right (by decide) hs
  have hn : n * 2 ^ s ≤ 4294967295 * 2 ^ 32 := Nat.mul_le_mul (by omega) hp
  have em : min (Int.toNat (s : Int)) IntKind.u64.bits = s := by show min s 64 = s; omega
  have e1 : IntKind.u64.wrap (IntKind.u64.wrap (n : Int) * 2 ^ min (Int.toNat (s : Int)) IntKind.u64.bits) = ((n * 2 ^ s : Nat) : Int) := by
    rw [em, u64_small (x := (n : Int)) (by omega) (by omega)]
    have : (n : Int) * 2 ^ s = ((n * 2 ^ s : Nat) : Int) := by rw [Int.natCast_mul, Int.natCast_pow]; rfl
    rw [this, u64_small (by omega) (by omega)]
  rw [e1]
  show IntKind.u64.wrap ((BitVec.ofInt 64 (m : Int) ||| BitVec.ofInt 64 ((n * 2 ^ s : Nat) : Int)).toNat : Int) = _
  rw [BitVec.ofInt_natCast, BitVec.ofInt_natCast, BitVec.toNat_or, BitVec.toNat_ofNat, BitVec.toNat_ofNat, Nat.mod_eq_of_lt (by omega), Nat.mod_eq_of_lt (by omega)]
  have e3 : m ||| n * 2 ^ s = n * 2 ^ s + m := by
    have := Nat.shiftLeft_add_eq_or_of_lt (a := n) (b := m) (i := s) hm
    rw [Nat.shiftLeft_eq] at this
    rw [Nat.or_comm]
    exact this.symm
  rw [e3, u64_small (by omega) (by omega), Int.natCast_add, Int.natCast_mul, Int.natCast_pow]
  rfl
end Go.Proofs.YtlnimeapichgmaaGreatDoor
