/-
  loss.Points, loss.check, pointsError; errors of loss.Exact.
-/
import Derived.Test.YtnfgnkbgajhhbaaGreatDoorDm
set_option linter.constructorNameAsVariable false
set_option linter.unusedSimpArgs false
set_option linter.unusedVariables false
namespace Go.Proofs.YtnfgnkbgajhhbaaGreatDoor
open Go.Am Go.Tx Dv Go.Lib
set_option maxRecDepth 100000
noncomputable def qOf (a : List UInt8) : Rat := Classical.epsilon fun q => a = ratT q
theorem qOf_ratT (q : Rat) : qOf (ratT q) = q := (ratT_inj (Classical.epsilon_spec (p := fun q' => ratT q = ratT q') ⟨q, rfl⟩)).symm
theorem map_qOf (ps : List Rat) : (ps.map ratT).map qOf = ps := by
  rw [List.map_map]
  have : (qOf ∘ ratT) = id := funext qOf_ratT
  rw [this, List.map_id]
noncomputable def resE (a : List UInt8) : Int := match decide (ratErr a = 0) with
  | false => ratErr a
  | true => resQ (qOf a)
theorem resE_ok {p : Rat} (hp : fitQ p = true) : resE (ratT p) = resQ p := by
  rw [resE, ratErr_ratT hp, qOf_ratT]
  rfl
theorem resE_err {a : List UInt8} (h : ratErr a ≠ 0) : resE a = ratErr a := by rw [resE, decide_eq_false h]
def ascE : List Rat → Int
  | p :: q :: r => match decide (0 ≤ cmpQ p q) with
    | true => 3
    | false => ascE (q :: r)
  | _ => 0
noncomputable def ptsE (l : List (List UInt8)) : Int := match decide ((16 : Int) < (l.length : Int)) with
  | true => 2
  | false => match decide ((l.length : Int) < 2) with
    | true => 8
    | false => match decide (ratEs l = 0) with
      | false => ratEs l
      | true => ascE (l.map qOf)
theorem cmpQ_neg (p q : Rat) : cmpQ q p = -cmpQ p q := by
  rw [cmpQ, cmpQ, ← Int.sign_neg]
  congr 1
  omega
theorem asc_step {ps : List Rat} {j : Nat} (h : j + 1 < ps.length) : ascE (ps.drop j) = match decide (0 ≤ cmpQ (ps[j]'(by omega)) ps[j + 1]) with
    | true => 3
    | false => ascE (ps.drop (j + 1)) := by
  rw [List.drop_eq_getElem_cons (show j < ps.length by omega), List.drop_eq_getElem_cons h, ascE]
theorem asc_end {ps : List Rat} {j : Nat} (h : j + 1 = ps.length) : ascE (ps.drop j) = 0 := by
  rw [List.drop_eq_getElem_cons (show j < ps.length by omega), List.drop_of_length_le (by omega), ascE]
  intro _ _ _ h
  cases h
set_option maxHeartbeats 4000000 in
theorem Points_t (l : List (List UInt8)) (hs : ∀ a ∈ l, a.length ≤ 9223372036854775806) : PureOK Tryz.prog hints 45 [.v (.l .s) l] (fun V => V = .v (.i .i64) (ptsE l)) := by
  refine pure_rule (fn := Tryz.f45) (code := bodyOf Tryz.f45) tys_ok (by kernel_rfl) rfl Tryz.func45 (by kernel_rfl) (Nat.le_of_ble_eq_true (by kernel_rfl)) ?_
  have hE : ptsE l = match decide ((16 : Int) < (l.length : Int)) with | true => 2 | false => match decide ((l.length : Int) < 2) with | true => 8 | false => match decide (ratEs l = 0) with | false => ratEs l | true => ascE (l.map qOf) := rfl
  obtain ⟨E, eE⟩ : ∃ x, ptsE l = x := ⟨_, rfl⟩
  rw [eE] at hE ⊢
  refine And.intro (fun h => ?_) (fun h => ?_)
  · have h' : decide ((16 : Int) < (l.length : Int)) = true := h
    rw [h'] at hE
    rw [hE]
    rfl
  have h1 : decide ((16 : Int) < (l.length : Int)) = false := h
  rw [h1] at hE
  refine And.intro (fun h => ?_) (fun h => ?_)
  · have h' : decide ((l.length : Int) < 2) = true := h
    rw [h'] at hE
    rw [hE]
    rfl
  have h2 : decide ((l.length : Int) < 2) = false := h
  rw [h2] at hE
  have n1 := of_decide_eq_false h1
  have n2 := of_decide_eq_false h2
  refine (CheckAll_t l (by omega) hs).mono ?_
  rintro _ rfl
  refine And.intro (fun h => ?_) (fun h => ?_)
  · have h' : (!decide (ratEs l = 0)) = true := h
    have hd : decide (ratEs l = 0) = false := by cases hd : decide (ratEs l = 0) <;> simp [hd] at h' ⊢
    rw [hd] at hE
    rw [hE]
    rfl
  have h' : (!decide (ratEs l = 0)) = false := h
  have h0 : ratEs l = 0 := by simpa using h'
  rw [decide_eq_true h0] at hE
  simp only at hE
  obtain ⟨ps, hlp, hps⟩ := all_rat (ratEs_zero h0)
  rw [hlp, map_qOf] at hE
  have hll : l.length = ps.length := by rw [hlp, List.length_map]
  have hg : ∀ i (h : i < ps.length), l[i]? = some (ratT ps[i]) := fun i h => by
    rw [hlp, List.getElem?_map, List.getElem?_eq_getElem h]
    rfl
  refine loop_wp tys_ok rfl (fun (j : Nat) => [(0, .v (.l .s) l), (4, .v (.i .i64) ((j + 1 : Nat) : Int))]) (fun _ => [])
    (fun j => j + 1 ≤ ps.length ∧ ascE (ps.drop j) = ascE ps) (fun j => ps.length - j) ?_ 0 ?_ ?_
  · rintro j ⟨hj, he⟩
    refine And.intro (fun h => ?_) (fun h => ?_)
    · have hlt : j + 1 < ps.length := by have h' : ((j + 1 : Nat) : Int) < (l.length : Int) := of_decide_eq_true h; omega
      rw [asc_step hlt] at he
      have w1 : IntKind.i64.wrap (((j + 1 : Nat) : Int) - 1) = (j : Int) := by rw [wrap64 (by omega) (by omega)]; omega
      have w2 : IntKind.i64.wrap (((j + 1 : Nat) : Int) + 1) = ((j + 1 + 1 : Nat) : Int) := wrap64 (by omega) (by omega)
      have gp : l[(IntKind.i64.wrap (((j + 1 : Nat) : Int) - 1)).toNat]? = some (ratT (ps[j]'(by omega))) := by rw [w1, Int.toNat_natCast]; exact hg j (by omega)
      have gq : l[((j + 1 : Nat) : Int).toNat]? = some (ratT ps[j + 1]) := by rw [Int.toNat_natCast]; exact hg (j + 1) hlt
      have fp := hps (ps[j]'(by omega)) (List.getElem_mem _)
      have fq := hps ps[j + 1] (List.getElem_mem hlt)
      obtain ⟨p, hp0⟩ : ∃ x, ps[j]'(by omega) = x := ⟨_, rfl⟩
      obtain ⟨q, hq0⟩ : ∃ x, ps[j + 1] = x := ⟨_, rfl⟩
      rw [hp0] at gp fp he
      rw [hq0] at gq fq he
      have hn : (0 : Int) ≤ IntKind.i64.wrap (((j + 1 : Nat) : Int) - 1) := by rw [w1]; exact Int.natCast_nonneg j
      refine ⟨ratT p, hn, gp, ?_⟩
      refine ⟨ratT q, Int.natCast_nonneg _, gq, ?_⟩
      refine (Compare_ok p q fp fq).mono ?_
      rintro _ rfl
      refine And.intro (fun h2 => ?_) (fun h2 => ?_)
      · have h2' : decide (0 ≤ cmpQ p q) = true := h2
        rw [h2'] at he
        rw [hE, ← he]
        rfl
      · have h2' : decide (0 ≤ cmpQ p q) = false := h2
        rw [h2'] at he
        refine ⟨j + 1, ⟨hlt, he⟩, by show ps.length - (j + 1) < ps.length - j; omega, ?_⟩
        refine ent_of rfl rfl ?_ ?_
        · exact ⟨rfl, w2.symm, trivial⟩
        · exact trivial
    · have hi2 : j + 1 = ps.length := by have h' : ¬ ((j + 1 : Nat) : Int) < (l.length : Int) := of_decide_eq_false h; omega
      rw [asc_end hi2] at he
      rw [hE, ← he]
      rfl
  · exact ⟨by omega, rfl⟩
  · refine ent_of rfl rfl ?_ ?_
    · exact ⟨rfl, rfl, trivial⟩
    · exact trivial
theorem resistance_t (a : List UInt8) (hla : a.length ≤ 9223372036854775806) : PureOK Tryz.prog hints 78 [.v .s a] (fun V => V = .v (.i .i64) (resE a)) := by
  by_cases h : ratErr a = 0
  · obtain ⟨p, rfl, hp⟩ := ratErr_zero h
    rw [resE_ok hp]
    exact resistance_ok p hp
  · rw [resE_err h]
    exact resistance_err a hla h
theorem lcheck_t (a : List UInt8) (l : List (List UInt8)) (hla : a.length ≤ 9223372036854775806) (hs : ∀ a ∈ l, a.length ≤ 9223372036854775806) : PureOK Tryz.prog hints 82 [.v .s a, .v (.l .s) l] (fun V => V = .v (.i .i64) (fst2 (resE a) (ptsE l))) := by
  refine pure_rule (fn := Tryz.f82) (code := bodyOf Tryz.f82) tys_ok (by kernel_rfl) rfl Tryz.func82 (by kernel_rfl) (Nat.le_of_ble_eq_true (by kernel_rfl)) ?_
  have hP := Points_t l hs
  refine (resistance_t a hla).mono ?_
  rintro _ rfl
  have hE : fst2 (resE a) (ptsE l) = match decide (resE a = 0) with | true => ptsE l | false => resE a := rfl
  refine And.intro (fun h => ?_) (fun h => ?_)
  · have h' : (!decide (resE a = 0)) = true := h
    have hd : decide (resE a = 0) = false := by cases hd : decide (resE a = 0) <;> simp [hd] at h' ⊢
    rw [hE, hd]
    rfl
  · have h' : (!decide (resE a = 0)) = false := h
    have hd : decide (resE a = 0) = true := by cases hd : decide (resE a = 0) <;> simp [hd] at h' ⊢
    rw [hE, hd]
    refine hP.mono ?_
    rintro _ rfl
    rfl
set_option maxHeartbeats 4000000 in
theorem pointsError_t (l : List (List UInt8)) (hs : ∀ a ∈ l, a.length ≤ 12) : PureOK Tryz.prog hints 39 [.v (.l .s) l] (fun V => V = .v (.i .i64) (ptsE l)) := by
  refine pure_rule (fn := Tryz.f39) (code := bodyOf Tryz.f39) tys_ok (by kernel_rfl) rfl Tryz.func39 (by kernel_rfl) (Nat.le_of_ble_eq_true (by kernel_rfl)) ?_
  have hE : ptsE l = match decide ((16 : Int) < (l.length : Int)) with | true => 2 | false => match decide ((l.length : Int) < 2) with | true => 8 | false => match decide (ratEs l = 0) with | false => ratEs l | true => ascE (l.map qOf) := rfl
  obtain ⟨E, eE⟩ : ∃ x, ptsE l = x := ⟨_, rfl⟩
  rw [eE] at hE ⊢
  refine And.intro (fun h => ?_) (fun h => ?_)
  · have h' : decide ((16 : Int) < (l.length : Int)) = true := h
    rw [h'] at hE
    rw [hE]
    rfl
  have h1 : decide ((16 : Int) < (l.length : Int)) = false := h
  rw [h1] at hE
  refine And.intro (fun h => ?_) (fun h => ?_)
  · have h' : decide ((l.length : Int) < 2) = true := h
    rw [h'] at hE
    rw [hE]
    rfl
  have h2 : decide ((l.length : Int) < 2) = false := h
  rw [h2] at hE
  have n1 := of_decide_eq_false h1
  have n2 := of_decide_eq_false h2
  refine (RatErrors_t l (by omega) (fun a ha => Nat.le_trans (hs a ha) (by decide))).mono ?_
  rintro _ rfl
  refine And.intro (fun h => ?_) (fun h => ?_)
  · have h' : (!decide (ratEs l = 0)) = true := h
    have hd : decide (ratEs l = 0) = false := by cases hd : decide (ratEs l = 0) <;> simp [hd] at h' ⊢
    rw [hd] at hE
    rw [hE]
    rfl
  have h' : (!decide (ratEs l = 0)) = false := h
  have h0 : ratEs l = 0 := by simpa using h'
  rw [decide_eq_true h0] at hE
  simp only at hE
  obtain ⟨ps, hlp, hps⟩ := all_rat (ratEs_zero h0)
  rw [hlp, map_qOf] at hE
  have hll : l.length = ps.length := by rw [hlp, List.length_map]
  have hg : ∀ i (h : i < ps.length), l[i]? = some (ratT ps[i]) := fun i h => by
    rw [hlp, List.getElem?_map, List.getElem?_eq_getElem h]
    rfl
  have hdz : ∀ i (h : i < ps.length), dz ps[i] 12 := fun i h => dz_text (hs _ (List.mem_of_getElem? (hg i h))) (by decide)
  obtain ⟨m, hm⟩ : ∃ m, (l.take l.length).drop (Int.toNat 1) = m := ⟨_, rfl⟩
  have hm1 : m = l.drop 1 := by rw [← hm, List.take_length]; rfl
  have hml : m.length = ps.length - 1 := by rw [hm1, List.length_drop, hll]
  have hgm : ∀ i (h : i + 1 < ps.length), m[i]? = some (ratT ps[i + 1]) := fun i h => by
    rw [hm1, List.getElem?_drop, Nat.add_comm, hg (i + 1) h]
  refine And.intro ⟨by decide, show (1 : Int) ≤ (l.length : Int) by omega⟩ ?_
  refine loop_wp tys_ok rfl (fun (j : Nat) => [(0, .v (.l .s) l), (18, .v (.l .s) m), (19, .v (.i .i64) (m.length : Int)), (20, .v (.i .i64) (j : Int))]) (fun _ => [])
    (fun j => j + 1 ≤ ps.length ∧ ascE (ps.drop j) = ascE ps) (fun j => ps.length - j) ?_ 0 ?_ ?_
  · rintro j ⟨hj, he⟩
    refine And.intro (fun h => ?_) (fun h => ?_)
    · have hlt : j + 1 < ps.length := by have h' : (j : Int) < (m.length : Int) := of_decide_eq_true h; omega
      rw [asc_step hlt] at he
      have w2 : IntKind.i64.wrap ((j : Int) + 1) = ((j + 1 : Nat) : Int) := wrap64 (by omega) (by omega)
      have gp : l[(j : Int).toNat]? = some (ratT (ps[j]'(by omega))) := by rw [Int.toNat_natCast]; exact hg j (by omega)
      have gq : m[(j : Int).toNat]? = some (ratT ps[j + 1]) := by rw [Int.toNat_natCast]; exact hgm j hlt
      have dp := hdz j (by omega)
      have dq := hdz (j + 1) hlt
      obtain ⟨p, hp0⟩ : ∃ x, ps[j]'(by omega) = x := ⟨_, rfl⟩
      obtain ⟨q, hq0⟩ : ∃ x, ps[j + 1] = x := ⟨_, rfl⟩
      rw [hp0] at gp dp he
      rw [hq0] at gq dq he
      have hcm := cmpQ_neg p q
      have hn : (0 : Int) ≤ (j : Int) := Int.natCast_nonneg j
      refine ⟨ratT q, hn, gq, ?_⟩
      refine ⟨ratT p, hn, gp, ?_⟩
      refine (RatCmp_t q p (by decide : 12 ≤ 40000) dq dp).mono ?_
      rintro _ rfl
      refine And.intro (fun h2 => ?_) (fun h2 => ?_)
      · have h2' : cmpQ q p ≤ 0 := of_decide_eq_true h2
        rw [decide_eq_true (show 0 ≤ cmpQ p q by omega)] at he
        rw [hE, ← he]
        rfl
      · have h2' : ¬ cmpQ q p ≤ 0 := of_decide_eq_false h2
        rw [decide_eq_false (show ¬ 0 ≤ cmpQ p q by omega)] at he
        refine ⟨j + 1, ⟨hlt, he⟩, by show ps.length - (j + 1) < ps.length - j; omega, ?_⟩
        refine ent_of rfl rfl ?_ ?_
        · exact ⟨rfl, rfl, rfl, w2.symm, trivial⟩
        · exact trivial
    · have hi2 : j + 1 = ps.length := by have h' : ¬ (j : Int) < (m.length : Int) := of_decide_eq_false h; omega
      rw [asc_end hi2] at he
      rw [hE, ← he]
      rfl
  · exact ⟨by omega, rfl⟩
  · refine ent_of rfl rfl ?_ ?_
    · exact ⟨rfl, hm.symm, congrArg (fun x : List (List UInt8) => ((x.length : Nat) : Int)) hm.symm, rfl, trivial⟩
    · exact trivial
theorem ExactE_t (a f : List UInt8) (ha : a.length ≤ 12) (hf : f.length ≤ 12) : PureOK Tryz.prog hints 35 [.v .s a, .v .s f] (fun V => ∃ X, V = rs (X, fst2 (resE a) (ratErr f))) := by
  have hE : fst2 (resE a) (ratErr f) = match decide (resE a = 0) with | true => ratErr f | false => resE a := rfl
  have hR := resistance_t a (Nat.le_trans ha (by decide))
  have hC := RCheck_t f (Nat.le_trans hf (by decide))
  by_cases h1 : resE a = 0
  · by_cases h2 : ratErr f = 0
    · obtain ⟨q, rfl, hq⟩ := ratErr_zero h2
      have h3 : ratErr a = 0 := by
        by_cases h : ratErr a = 0
        · exact h
        · rw [resE_err h] at h1; exact absurd h1 h
      obtain ⟨p, rfl, hp⟩ := ratErr_zero h3
      rw [resE_ok hp] at h1
      have hp0 : decide (p.num < 0) = false := by
        cases hh : decide (p.num < 0) with
        | false => rfl
        | true => rw [resQ, hh] at h1; cases h1
      have d1 := dz_text ha (by decide)
      have d2 := dz_text hf (by decide)
      refine (Exact_ok p q hp hq).mono ?_
      rintro _ rfl
      rw [exaR_pos hp0, ratR_dz (by decide) (dz_mono (show 36 ≤ 2000 by decide) (dz_mul (dz_mul d1 d2) d2))]
      refine ⟨ratT (p * q * q), ?_⟩
      rw [hE, resE_ok hp, h1, h2]
      rfl
    · refine pure_rule (fn := Tryz.f35) (code := bodyOf Tryz.f35) tys_ok (by kernel_rfl) rfl Tryz.func35 (by kernel_rfl) (Nat.le_of_ble_eq_true (by kernel_rfl)) ?_
      rw [h1] at hR
      rw [hE, decide_eq_true h1]
      obtain ⟨E, eE⟩ : ∃ x, ratErr f = x := ⟨_, rfl⟩
      rw [eE] at hC h2 ⊢
      have hn : (!decide (E = 0)) = true := by rw [decide_eq_false h2]; rfl
      refine hR.mono ?_
      rintro _ rfl
      refine And.intro (fun h => nomatch h) (fun _ => ?_)
      refine hC.mono ?_
      rintro _ rfl
      refine And.intro (fun _ => ?_) (fun h => (nf hn h).elim)
      exact ⟨[], rfl⟩
  · refine pure_rule (fn := Tryz.f35) (code := bodyOf Tryz.f35) tys_ok (by kernel_rfl) rfl Tryz.func35 (by kernel_rfl) (Nat.le_of_ble_eq_true (by kernel_rfl)) ?_
    rw [hE, decide_eq_false h1]
    obtain ⟨E, eE⟩ : ∃ x, resE a = x := ⟨_, rfl⟩
    rw [eE] at hR h1 ⊢
    have hn : (!decide (E = 0)) = true := by rw [decide_eq_false h1]; rfl
    refine hR.mono ?_
    rintro _ rfl
    refine And.intro (fun _ => ?_) (fun h => (nf hn h).elim)
    exact ⟨[], rfl⟩
end Go.Proofs.YtnfgnkbgajhhbaaGreatDoor