/-
  nat.Power.
-/
import Derived.Test.YtlnimeapichgmaaDoorT21
import Derived.Test.YtlnimeapichgmaaDoorTxB
set_option linter.constructorNameAsVariable false
set_option linter.unusedSimpArgs false
set_option linter.unusedVariables false
namespace Go.Proofs.YtlnimeapichgmaaDoor
open Go.Am Go.Tx Dv Go.Lib
set_option maxRecDepth 100000
def powR (a : List UInt8) (n : Int) : List UInt8 × Int := match decide (natErr a = 0) with
  | true => match decide (n < 0) with
    | true => ([], 4)
    | false => match decide (10000 < n) with
      | true => ([], 4)
      | false => natT (dec a ^ n.toNat)
  | false => ([], natErr a)
theorem one_text (n : Nat) (s : List UInt8) (hs : Cn s) : (decDigits n == s) = decide (n = dec s) := by
  by_cases h : n = dec s
  · rw [decide_eq_true h, h, hs.eq]
    simp
  · rw [decide_eq_false h]
    cases hb : (decDigits n == s) with
    | false => rfl
    | true =>
      have h1 : decDigits n = s := by simpa using hb
      have h2 := dec_digits n
      rw [h1] at h2
      exact absurd h2.symm h
theorem twoE_pow (a : List UInt8) : twoE a [48] = natErr a := by
  have h : natErr [48] = 0 := by decide
  unfold twoE
  cases hd : decide (natErr a = 0) with
  | true => rw [h, of_decide_eq_true hd]
  | false => rfl
def powH (A B C : Int) : List SM := [.cell [.v .b (decide (A < 0)), u32s (wOf A.natAbs)] true, .cell [.v .b (decide (B < 0)), u32s (wOf B.natAbs)] true, .cell [.v .b (decide (C < 0)), u32s (wOf C.natAbs)] true]
theorem RxoorT231one (k:Nat) (h:k≠0):1<10^k:=Nat.one_lt_pow h (by decide)
set_option maxHeartbeats 8000000 in
theorem Power_t (a : List UInt8) (n : Int) (hla : a.length ≤ 9223372036854775806) : PureOK Tryd.prog hints 25 [.v .s a, .v (.i .i64) n] (fun V => V = rs (powR a n)) := by
  refine pure_rule (fn := Tryd.f25) (code := bodyOf Tryd.f25) tys_ok (by kernel_rfl) rfl Tryd.func25 (by kernel_rfl) (Nat.le_of_ble_eq_true (by kernel_rfl)) ?_
  rcases two_cases a [48] hla (by decide) with ⟨hE, h2⟩ | ⟨hE, h2⟩
  · rw [twoE_pow] at hE
    obtain ⟨ca, la⟩ := natErr_zero hE
    have hda := dec_two hE
    have hlp : ∀ {m : Nat}, m < 10 ^ 2000 → ln (m : Int) ≤ 2000 := fun {m} h => by
      rw [ln, Int.natAbs_natCast]
      have h3 := ln_dec (dg_digits m)
      rw [dec_digits] at h3
      exact Nat.le_trans h3 ((digits_len (k:=2000) (by decide)).2 h)
    have hone : 1 < 10 ^ 2000 := RxoorT231one 2000 (by decide)
    have hts : ∀ {m : Nat}, m < 10 ^ 2000 ↔ Nat.ble (decDigits m).length 2000 = true := fun {m} => by rw[Nat.ble_eq,digits_len (k:=2000) (by decide)]
    have ha0 : (a == [48]) = decide (dec a = 0) := by
      have := one_text (dec a) [48] (by refine ⟨by simp, fun c hc => by rw [List.mem_singleton.1 hc]; decide, fun h => absurd h (by decide)⟩)
      rw [ca.eq] at this
      exact this
    have ha1 : (a == [49]) = decide (dec a = 1) := by
      have := one_text (dec a) [49] (by refine ⟨by simp, fun c hc => by rw [List.mem_singleton.1 hc]; decide, fun h => absurd h (by decide)⟩)
      rw [ca.eq] at this
      exact this
    generalize 10 ^ 2000 = P at *
    have hd : decide (natErr a = 0) = true := decide_eq_true hE
    refine h2.mono ?_
    rintro _ rfl
    refine And.intro rfl ?_
    refine And.intro rfl ?_
    refine And.intro (fun h => absurd h (by decide)) (fun _ => ?_)
    refine wpg_seq (wpg_region rfl ?_)
    iterate 3 refine wpg_v rfl (fun _ => rfl) rfl rfl ?_
    cases hn : decide (n < 0) with
    | true =>
      iterate 2 refine wpg_skip rfl rfl rfl rfl rfl rfl ?_
      refine wpg_pt rfl rfl rfl rfl rfl rfl rfl ?_
      refine wpg_v rfl (fun _ => rfl) rfl rfl ?_
      refine wpg_nil ?_
      refine And.intro (fun _ => ?_) (fun h => nomatch h)
      show _ = rs (powR a n)
      simp only [powR, hd, hn]
    | false =>
      iterate 2 refine wpg_vg rfl rfl rfl rfl (fun _ => rfl) rfl rfl ?_
      refine wpg_pf rfl rfl rfl rfl rfl rfl rfl ?_
      refine wpg_v rfl (fun _ => rfl) rfl rfl ?_
      refine wpg_nil ?_
      have hn' : ¬ n < 0 := of_decide_eq_false hn
      refine And.intro (fun h => ?_) (fun h => ?_)
      · have h' : decide (10000 < n) = true := h
        show _ = rs (powR a n)
        simp only [powR, hd, hn, h']
      have h' : decide (10000 < n) = false := h
      have hn2 : ¬ 10000 < n := of_decide_eq_false h'
      obtain ⟨N, rfl⟩ := Int.eq_ofNat_of_zero_le (show 0 ≤ n by omega)
      have hR : powR a (N : Int) = natT (dec a ^ N) := by
        simp only [powR, hd, hn, h', Int.toNat_natCast]
      rw [hR]
      refine (Of_t 1 (by decide) (by decide)).mono ?_
      rintro _ rfl
      refine And.intro rfl ?_
      refine loop_wp tys_ok rfl (fun (i : Nat) => [(0, .v .s a), (6, .ptr 0 0 0), (7, .ptr 1 0 0), (9, .ptr 2 0 0), (30, .v (.i .i64) (N : Int)), (31, .v (.i .i64) (i : Int))]) (fun i => powH (dec a : Nat) (dec [48] : Nat) ((dec a ^ i : Nat) : Int))
        (fun i => i ≤ N ∧ dec a ^ i < P) (fun i => N - i) ?_ 0 ?_ ?_
      · rintro i ⟨hi, hp⟩
        refine And.intro (fun h => ?_) (fun h => ?_)
        · have hlt : i < N := by have h' : (i : Int) < (N : Int) := of_decide_eq_true h; omega
          have hm := Mul_t ((dec a ^ i : Nat) : Int) (dec a : Nat) (by have := hlp hp; omega) (by have := hlp hda; omega)
          rw [← Int.natCast_mul, ← Nat.pow_succ] at hm
          refine And.intro rfl ?_
          refine And.intro rfl ?_
          refine hm.mono ?_
          rintro _ rfl
          refine And.intro rfl ?_
          refine And.intro rfl ?_
          have hTx := Text_t ((dec a ^ (i + 1) : Nat) : Int)
          obtain ⟨h1, _⟩ := text_eq (dec a ^ (i + 1))
          rw [Int.natAbs_natCast, h1] at hTx
          obtain ⟨s, hs⟩ : ∃ s, textB (decide (((dec a ^ (i + 1) : Nat) : Int) < 0)) (wOf (dec a ^ (i + 1))) = s := ⟨_, rfl⟩
          rw [hs] at hTx
          refine hTx.mono ?_
          rintro _ rfl
          refine And.intro (fun h2 => ?_) (fun h2 => ?_)
          · have h2' : (!Nat.ble (decDigits (dec a ^ (i + 1))).length 2000) = true := h2
            have hnb : ¬ dec a ^ (i + 1) < P := fun h3 => by
              rw [hts.1 h3] at h2'
              cases h2'
            have ha1 : 0 < dec a := by
              rcases Nat.eq_zero_or_pos (dec a) with h3 | h3
              · exact absurd (by rw [h3, Nat.pow_succ, Nat.mul_zero]; omega) hnb
              · exact h3
            have hnN : ¬ dec a ^ N < P := fun h3 => hnb (Nat.lt_of_le_of_lt (Nat.pow_le_pow_right ha1 hlt) h3)
            have hbf : Nat.ble (decDigits (dec a ^ N)).length 2000 = false := by
              cases hb : Nat.ble (decDigits (dec a ^ N)).length 2000 with
              | false => rfl
              | true => exact absurd (hts.2 hb) hnN
            show _ = rs (natT (dec a ^ N))
            simp only [natT, hbf]
          · have h2' : (!Nat.ble (decDigits (dec a ^ (i + 1))).length 2000) = false := h2
            have hlP : dec a ^ (i + 1) < P := hts.2 (by cases hb : Nat.ble (decDigits (dec a ^ (i + 1))).length 2000 <;> simp [hb] at h2' ⊢)
            have wi : IntKind.i64.wrap ((i : Int) + 1) = ((i + 1 : Nat) : Int) := wrap64 (by omega) (by omega)
            have fin : dec a ^ (i + 1) = dec a ^ N → rs (natT (dec a ^ (i + 1))) = rs (natT (dec a ^ N)) := fun h => by rw [h]
            refine wpg_seq (wpg_region rfl ?_)
            iterate 3 refine wpg_v rfl (fun _ => rfl) rfl rfl ?_
            cases hz : (a == [48]) with
            | true =>
              have hz' : dec a = 0 := of_decide_eq_true (ha0 ▸ hz)
              iterate 2 refine wpg_skip rfl rfl rfl rfl rfl rfl ?_
              refine wpg_pt rfl rfl rfl rfl rfl rfl rfl ?_
              refine wpg_nil ?_
              refine And.intro (fun _ => ?_) (fun h => nomatch h)
              refine And.intro rfl ?_
              refine (text_t (dec a ^ (i + 1))).mono ?_
              rintro _ rfl
              exact fin (by rw [hz', Nat.zero_pow (by omega), Nat.zero_pow (by omega)])
            | false =>
              iterate 2 refine wpg_vg rfl rfl rfl rfl (fun _ => rfl) rfl rfl ?_
              refine wpg_pf rfl rfl rfl rfl rfl rfl rfl ?_
              refine wpg_nil ?_
              refine And.intro (fun h => ?_) (fun _ => ?_)
              · have h' : (a == [49]) = true := h
                have hz' : dec a = 1 := of_decide_eq_true (ha1 ▸ h')
                refine And.intro rfl ?_
                refine (text_t (dec a ^ (i + 1))).mono ?_
                rintro _ rfl
                exact fin (by rw [hz', Nat.one_pow, Nat.one_pow])
              · refine ⟨i + 1, ⟨hlt, hlP⟩, by show N - (i + 1) < N - i; omega, ?_⟩
                refine ent_of rfl rfl ?_ ?_
                · exact ⟨rfl, ⟨rfl, rfl⟩, ⟨rfl, rfl⟩, ⟨rfl, rfl⟩, rfl, wi.symm, trivial⟩
                · exact ⟨⟨⟨rfl, rfl, trivial⟩, fun _ => rfl⟩, ⟨⟨rfl, rfl, trivial⟩, fun _ => rfl⟩, ⟨⟨rfl, rfl, trivial⟩, fun _ => rfl⟩, trivial⟩
        · have he : i = N := by have h' : ¬ (i : Int) < (N : Int) := of_decide_eq_false h; omega
          subst he
          refine And.intro rfl ?_
          refine (text_t (dec a ^ i)).mono ?_
          rintro _ rfl
          rfl
      · exact ⟨Nat.zero_le _, by rw [Nat.pow_zero]; exact hone⟩
      · refine ent_of rfl rfl ?_ ?_
        · exact ⟨rfl, ⟨rfl, rfl⟩, ⟨rfl, rfl⟩, ⟨rfl, rfl⟩, rfl, rfl, trivial⟩
        · exact ⟨⟨⟨rfl, rfl, trivial⟩, fun _ => rfl⟩, ⟨⟨rfl, rfl, trivial⟩, fun _ => rfl⟩, ⟨⟨rfl, rfl, trivial⟩, fun _ => rfl⟩, trivial⟩
  · rw [twoE_pow] at hE h2
    have hd : decide (natErr a = 0) = false := decide_eq_false hE
    refine h2.mono ?_
    rintro _ rfl
    refine And.intro rfl ?_
    refine And.intro rfl ?_
    have hn : (!decide (natErr a = 0)) = true := by rw [hd]; rfl
    refine And.intro (fun _ => ?_) (fun h => (nf hn h).elim)
    show _ = rs (powR a n)
    simp only [powR, hd]
end Go.Proofs.YtlnimeapichgmaaDoor
