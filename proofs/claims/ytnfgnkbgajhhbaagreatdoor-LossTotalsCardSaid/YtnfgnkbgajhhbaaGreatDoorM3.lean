/-
  Lists of rational numbers: ParseAll, Dot; first; vast.
-/
import Derived.Test.YtnfgnkbgajhhbaaGreatDoorQ9
import Derived.Test.YtnfgnkbgajhhbaaGreatDoorDm
import Derived.Test.YtnfgnkbgajhhbaaGreatDoorM4
import Derived.Test.YtnfgnkbgajhhbaaGreatDoorW0
import Derived.Test.YtnfgnkbgajhhbaaGreatDoorTx9
import Derived.Test.YtnfgnkbgajhhbaaGreatDoorAmC
set_option linter.constructorNameAsVariable false
set_option linter.unusedSimpArgs false
set_option linter.unusedVariables false
namespace Go.Proofs.YtnfgnkbgajhhbaaGreatDoor
open Go.Am Go.Tx Dv Go.Lib
set_option maxRecDepth 100000
set_option maxHeartbeats 4000000 in
theorem gfirst_t (l : List Int) (hl : l.length ≤ 1000000) : PureOK Tryz.prog hints 17 [.v (.l (.i .i64)) l] (fun V => V = .v (.i .i64) (fstE l)) := by
  refine pure_rule (fn := Tryz.f17) (code := bodyOf Tryz.f17) tys_ok (by kernel_rfl) rfl Tryz.func17 (by kernel_rfl) (Nat.le_of_ble_eq_true (by kernel_rfl)) ?_
  refine loop_wp tys_ok rfl (fun (i : Nat) => [(5, .v (.l (.i .i64)) l), (6, .v (.i .i64) (l.length : Int)), (7, .v (.i .i64) (i : Int))]) (fun _ => [])
    (fun i => i ≤ l.length ∧ fstE (l.drop i) = fstE l) (fun i => l.length - i) ?_ 0 ?_ ?_
  · rintro i ⟨hi, he⟩
    refine And.intro (fun h => ?_) (fun h => ?_)
    · have hlt : i < l.length := by have h' : (i : Int) < (l.length : Int) := of_decide_eq_true h; omega
      obtain ⟨x, hx⟩ : ∃ x, l[i] = x := ⟨_, rfl⟩
      have gx : l[(i : Int).toNat]? = some x := by rw [Int.toNat_natCast, List.getElem?_eq_getElem hlt, hx]
      rw [List.drop_eq_getElem_cons hlt, hx, fstE] at he
      refine ⟨x, Int.natCast_nonneg i, gx, ?_⟩
      refine And.intro (fun h2 => ?_) (fun h2 => ?_)
      · have h2' : (!decide (x = 0)) = true := h2
        have hd : decide (x = 0) = false := by cases hd : decide (x = 0) <;> simp [hd] at h2' ⊢
        rw [hd] at he
        exact congrArg (SV.v (.i .i64)) he
      · have h2' : (!decide (x = 0)) = false := h2
        have hd : decide (x = 0) = true := by cases hd : decide (x = 0) <;> simp [hd] at h2' ⊢
        rw [hd] at he
        have wi : IntKind.i64.wrap ((i : Int) + 1) = ((i + 1 : Nat) : Int) := wrap64 (by omega) (by omega)
        refine ⟨i + 1, ⟨hlt, he⟩, by show l.length - (i + 1) < l.length - i; omega, ?_⟩
        refine ent_of rfl rfl ?_ ?_
        · exact ⟨rfl, rfl, wi.symm, trivial⟩
        · exact trivial
    · have hi2 : i = l.length := by have h' : ¬ (i : Int) < (l.length : Int) := of_decide_eq_false h; omega
      rw [List.drop_of_length_le (by omega)] at he
      exact congrArg (SV.v (.i .i64)) he
  · exact ⟨Nat.zero_le _, rfl⟩
  · refine ent_of rfl rfl ?_ ?_
    · exact ⟨rfl, rfl, rfl, trivial⟩
    · exact trivial
theorem gfirst2_t (a b : Int) : PureOK Tryz.prog hints 17 [.v (.l (.i .i64)) (sub [a, b] 0 2)] (fun V => V = .v (.i .i64) (fst2 a b)) := by
  have h := gfirst_t [a, b] (show 2 ≤ 1000000 by decide)
  rw [fstE_two] at h
  exact h
end Go.Proofs.YtnfgnkbgajhhbaaGreatDoor

/-
  lossFact: run by the kernel.
-/
set_option linter.unusedSimpArgs false
set_option linter.unusedVariables false
namespace Go.Proofs.YtnfgnkbgajhhbaaGreatDoor
open Go.Am Go.Tx
set_option maxRecDepth 1000000 in
theorem lossFact_run : saysTrue ((evalF Tryz.prog hints 400).rn 30 [] []) = true := by decide +kernel
theorem lossFact_t : PureOK Tryz.prog hints 30 [] (fun V => V = .v .b true) := by
  refine ⟨fun qs hr => ?_⟩
  simp only [RL] at hr
  subst hr
  have h := lossFact_run
  cases hx : (evalF Tryz.prog hints 400).rn 30 [] [] with
  | none => rw [hx] at h; cases h
  | some x =>
    obtain ⟨v, H⟩ := x
    rw [hx] at h
    have hv : v = .bool true := by
      cases v <;> first | (cases h; done) | skip
      rename_i b
      cases b <;> first | rfl | cases h
    subst hv
    have hl := lim_of hx
    refine ⟨.bool true, .v .b true, ?_, by simp only [RV, RR], rfl⟩
    show ((lim Tryz.prog hints).rn 30 [] []).bind _ = _
    rw [hl]
    rfl
end Go.Proofs.YtnfgnkbgajhhbaaGreatDoor

/-
  loss.Exact, loss.Total; LossTotals.
-/
set_option linter.unusedSimpArgs false
set_option linter.unusedVariables false
namespace Go.Proofs.YtnfgnkbgajhhbaaGreatDoor
open Go.Am Go.Tx Dv Go.Lib
set_option maxRecDepth 100000
theorem all_rat : ∀ {l : List (List UInt8)}, (∀ a ∈ l, ratErr a = 0) → ∃ ps : List Rat, l = ps.map ratT ∧ ∀ p ∈ ps, fitQ p = true
  | [], _ => ⟨[], rfl, fun _ h => absurd h List.not_mem_nil⟩
  | a :: l, h => by
    obtain ⟨p, h1, h2⟩ := ratErr_zero (h a List.mem_cons_self)
    obtain ⟨ps, h3, h4⟩ := all_rat (l := l) (fun b hb => h b (List.mem_cons_of_mem _ hb))
    refine ⟨p :: ps, by rw [List.map_cons, ← h1, ← h3], fun q hq => ?_⟩
    rcases List.mem_cons.1 hq with rfl | hq
    · exact h2
    · exact h4 q hq
/-- What loss.Exact answers. -/
def exaR (p q : Rat) : List UInt8 × Int := match decide (p.num < 0) with
  | true => ([], 4)
  | false => ratR (p * q * q)
set_option maxHeartbeats 4000000 in
theorem Exact_ok (p q : Rat) (hp : fitQ p = true) (hq : fitQ q = true) : PureOK Tryz.prog hints 35 [.v .s (ratT p), .v .s (ratT q)] (fun V => V = rs (exaR p q)) := by
  refine pure_rule (fn := Tryz.f35) (code := bodyOf Tryz.f35) tys_ok (by kernel_rfl) rfl Tryz.func35 (by kernel_rfl) (Nat.le_of_ble_eq_true (by kernel_rfl)) ?_
  have hR := resistance_ok p hp
  have hc := RCheck_t (ratT q) (fit_le hq)
  rw [ratErr_ratT hq] at hc
  have e1 : resQ p = match decide (p.num < 0) with | true => 4 | false => 0 := rfl
  have e2 : exaR p q = match decide (p.num < 0) with | true => ([], 4) | false => ratR (p * q * q) := rfl
  have sp := fit_sz hp
  have sq := fit_sz hq
  have sm := sz_mul sp sq
  cases hn : decide (p.num < 0) with
  | true =>
    rw [hn] at e1 e2
    rw [e1] at hR
    rw [e2]
    refine hR.mono ?_
    rintro _ rfl
    refine And.intro (fun _ => rfl) (fun h => by cases h)
  | false =>
    rw [hn] at e1 e2
    rw [e1] at hR
    rw [e2]
    refine hR.mono ?_
    rintro _ rfl
    refine And.intro (fun h => by cases h) (fun _ => ?_)
    refine hc.mono ?_
    rintro _ rfl
    refine And.intro (fun h => by cases h) (fun _ => ?_)
    refine (Parse_t q hq).mono ?_
    rintro _ rfl
    refine And.intro rfl ?_
    refine (Parse_t p hp).mono ?_
    rintro _ rfl
    refine And.intro rfl ?_
    refine (RMul_t p q (by decide : 208 ≤ 100000) sp sq).mono ?_
    rintro _ rfl
    refine And.intro rfl ?_
    refine (RMul_t (p * q) q (by decide : 416 ≤ 100000) sm (sz_mono (by decide) sq)).mono ?_
    rintro _ rfl
    refine (ltext_t (p * q * q)).mono ?_
    rintro _ rfl
    rfl
/-- The sum of the losses. -/
def lossQ : List Rat → List Rat → Rat
  | p :: ps, q :: qs => p * q * q + lossQ ps qs
  | _, _ => 0
theorem lossQ_nil (qs : List Rat) : lossQ [] qs = 0 := by cases qs <;> rfl
theorem lossQ_step {ps qs : List Rat} {i : Nat} (h1 : i < ps.length) (h2 : i < qs.length) : lossQ (ps.drop i) (qs.drop i) = ps[i] * qs[i] * qs[i] + lossQ (ps.drop (i + 1)) (qs.drop (i + 1)) := by
  rw [List.drop_eq_getElem_cons h1, List.drop_eq_getElem_cons h2, lossQ]
/-- What loss.Total answers. -/
def totR (ps qs : List Rat) : List UInt8 × Int := match negB ps with
  | true => ([], 4)
  | false => ratR (lossQ ps qs)
def TotP (r f : List (List UInt8)) (x : List UInt8 × Int) : Prop :=
  (fst2 (vecE r) (vecE f) ≠ 0 ∧ x = ([], fst2 (vecE r) (vecE f))) ∨ (fst2 (vecE r) (vecE f) = 0 ∧ r.length ≠ f.length ∧ x = ([], 3)) ∨
  (fst2 (vecE r) (vecE f) = 0 ∧ r.length = f.length ∧ ∃ ps qs, r = ps.map ratT ∧ f = qs.map ratT ∧ (∀ p ∈ ps, fitQ p = true) ∧ (∀ q ∈ qs, fitQ q = true) ∧ x = totR ps qs)
def totH (S : Rat) : List SM := [.dead, .cell [.v .b (decide (S.num < 0)), u32s (wOf S.num.natAbs), .v .b (decide ((S.den : Int) < 0)), u32s (wOf (S.den : Int).natAbs)] true]
set_option maxHeartbeats 16000000 in
theorem Total_t (r f : List (List UInt8)) (hr : ∀ a ∈ r, a.length ≤ 9223372036854775806) (hf : ∀ a ∈ f, a.length ≤ 9223372036854775806) : PureOK Tryz.prog hints 31 [.v (.l .s) r, .v (.l .s) f] (fun V => ∃ x, V = rs x ∧ TotP r f x) := by
  refine pure_rule (fn := Tryz.f31) (code := bodyOf Tryz.f31) tys_ok (by kernel_rfl) rfl Tryz.func31 (by kernel_rfl) (Nat.le_of_ble_eq_true (by kernel_rfl)) ?_
  refine loop_wp tys_ok rfl (fun (i : Nat) => [(0, .v (.l .s) r), (1, .v (.l .s) f), (15, .ref 0 0 2 none), (16, .v (.i .i64) (2 : Int)), (17, .v (.i .i64) (i : Int))]) (fun _ => [.row (.l .s) [r, f] true])
    (fun i => i ≤ 2 ∧ (1 ≤ i → vecE r = 0) ∧ (2 ≤ i → vecE f = 0)) (fun i => 2 - i) ?_ 0 ?_ ?_
  · rintro i ⟨hi, g1, g2⟩
    rcases (show i = 0 ∨ i = 1 ∨ i = 2 by omega) with rfl | rfl | rfl
    · refine And.intro (fun _ => ?_) (fun h => nomatch h)
      refine And.intro ⟨by decide, by decide⟩ ?_
      refine Exists.intro r (And.intro rfl ?_)
      refine (CheckVec_t r hr).mono ?_
      rintro _ rfl
      refine And.intro (fun h => ?_) (fun h => ?_)
      · have h' : (!decide (vecE r = 0)) = true := h
        have he : decide (vecE r = 0) = false := by cases hd : decide (vecE r = 0) <;> simp [hd] at h' ⊢
        have hE : fst2 (vecE r) (vecE f) = vecE r := by simp only [fst2, he]
        exact ⟨([], vecE r), rfl, .inl ⟨by rw [hE]; exact of_decide_eq_false he, by rw [hE]⟩⟩
      · have h' : (!decide (vecE r = 0)) = false := h
        have he : vecE r = 0 := by simpa using h'
        refine ⟨1, ⟨by decide, fun _ => he, fun h => absurd h (by decide)⟩, by decide, ?_⟩
        refine ent_of rfl rfl ?_ ?_
        · exact ⟨rfl, rfl, ⟨rfl, rfl, rfl⟩, rfl, rfl, trivial⟩
        · exact ⟨⟨rfl, fun _ => rfl⟩, trivial⟩
    · have he := g1 (by decide)
      refine And.intro (fun _ => ?_) (fun h => nomatch h)
      refine And.intro ⟨by decide, by decide⟩ ?_
      refine Exists.intro f (And.intro rfl ?_)
      refine (CheckVec_t f hf).mono ?_
      rintro _ rfl
      have hE : fst2 (vecE r) (vecE f) = vecE f := by simp only [fst2, he, decide_true]
      refine And.intro (fun h => ?_) (fun h => ?_)
      · have h' : (!decide (vecE f = 0)) = true := h
        have he2 : decide (vecE f = 0) = false := by cases hd : decide (vecE f = 0) <;> simp [hd] at h' ⊢
        exact ⟨([], vecE f), rfl, .inl ⟨by rw [hE]; exact of_decide_eq_false he2, by rw [hE]⟩⟩
      · have h' : (!decide (vecE f = 0)) = false := h
        have he2 : vecE f = 0 := by simpa using h'
        refine ⟨2, ⟨by decide, fun _ => he, fun _ => he2⟩, by decide, ?_⟩
        refine ent_of rfl rfl ?_ ?_
        · exact ⟨rfl, rfl, ⟨rfl, rfl, rfl⟩, rfl, rfl, trivial⟩
        · exact ⟨⟨rfl, fun _ => rfl⟩, trivial⟩
    · have z1 := g1 (by decide)
      have z2 := g2 (by decide)
      have hE : fst2 (vecE r) (vecE f) = 0 := by simp only [fst2, z1, decide_true, z2]
      obtain ⟨l1, s1⟩ := vecE_zero z1
      obtain ⟨l2, s2⟩ := vecE_zero z2
      obtain ⟨ps, rfl, hps⟩ := all_rat (ratEs_zero s1)
      obtain ⟨qs, rfl, hqs⟩ := all_rat (ratEs_zero s2)
      have hll : (ps.map ratT).length = ps.length := List.length_map _
      have hlq : (qs.map ratT).length = qs.length := List.length_map _
      have hgp : ∀ i (h : i < ps.length), (ps.map ratT)[i]? = some (ratT ps[i]) := fun i h => by
        rw [List.getElem?_map, List.getElem?_eq_getElem h]
        rfl
      have hgq : ∀ i (h : i < qs.length), (qs.map ratT)[i]? = some (ratT qs[i]) := fun i h => by
        rw [List.getElem?_map, List.getElem?_eq_getElem h]
        rfl
      have fin : ∀ x, (ps.map ratT).length = (qs.map ratT).length → x = totR ps qs → TotP (ps.map ratT) (qs.map ratT) x := fun x hl hx => .inr (.inr ⟨hE, hl, ps, qs, rfl, rfl, hps, hqs, hx⟩)
      have fin3 : (ps.map ratT).length ≠ (qs.map ratT).length → TotP (ps.map ratT) (qs.map ratT) ([], 3) := fun hl => .inr (.inl ⟨hE, hl, rfl⟩)
      obtain ⟨rl, hrl⟩ : ∃ l, ps.map ratT = l := ⟨_, rfl⟩
      obtain ⟨fl, hfl⟩ : ∃ l, qs.map ratT = l := ⟨_, rfl⟩
      rw [hrl] at hll hgp fin fin3 l1 ⊢
      rw [hfl] at hlq hgq fin fin3 l2 ⊢
      refine And.intro (fun h => nomatch h) (fun _ => ?_)
      refine And.intro (fun h => ?_) (fun h => ?_)
      · have h' : (!decide ((rl.length : Int) = (fl.length : Int))) = true := h
        have hne : ¬ (rl.length : Int) = (fl.length : Int) := by simpa using h'
        exact ⟨([], 3), rfl, fin3 (fun e => hne (by rw [e]))⟩
      have h' : (!decide ((rl.length : Int) = (fl.length : Int))) = false := h
      have heq : (rl.length : Int) = (fl.length : Int) := by simpa using h'
      have fin := fun x => fin x (by omega)
      refine (Whole_t 0 (by decide) (by decide)).mono ?_
      rintro _ rfl
      refine And.intro rfl ?_
      refine loop_wp tys_ok rfl (fun (t : Nat × Rat) => [(0, .v (.l .s) rl), (1, .v (.l .s) fl), (9, .ptr 1 0 0), (34, .v (.i .i64) (rl.length : Int)), (35, .v (.i .i64) (t.1 : Int))]) (fun t => totH t.2)
        (fun t => t.1 ≤ ps.length ∧ szQ t.2 (625 * t.1 + 1) ∧ negB (ps.drop t.1) = negB ps ∧ t.2 + lossQ (ps.drop t.1) (qs.drop t.1) = lossQ ps qs) (fun t => ps.length - t.1) ?_ (0, 0) ?_ ?_
      · rintro ⟨i, S⟩ ⟨hi, hS, hneg, he⟩
        simp only at hi hS hneg he
        refine And.intro (fun h => ?_) (fun h => ?_)
        · have hlt : i < ps.length := by have h' : (i : Int) < (rl.length : Int) := of_decide_eq_true h; omega
          have hlt2 : i < qs.length := by omega
          rw [lossQ_step hlt hlt2] at he
          rw [List.drop_eq_getElem_cons hlt, negB] at hneg
          have gp : rl[(i : Int).toNat]? = some (ratT ps[i]) := by rw [Int.toNat_natCast]; exact hgp i hlt
          have gq : fl[(i : Int).toNat]? = some (ratT qs[i]) := by rw [Int.toNat_natCast]; exact hgq i hlt2
          have fp := hps ps[i] (List.getElem_mem hlt)
          have fq := hqs qs[i] (List.getElem_mem hlt2)
          obtain ⟨p, hp0⟩ : ∃ x, ps[i] = x := ⟨_, rfl⟩
          obtain ⟨q, hq0⟩ : ∃ x, qs[i] = x := ⟨_, rfl⟩
          rw [hp0] at gp fp he hneg
          rw [hq0] at gq fq he
          have hR := resistance_ok p fp
          have e1 : resQ p = match decide (p.num < 0) with | true => 4 | false => 0 := rfl
          have wi : IntKind.i64.wrap ((i : Int) + 1) = ((i + 1 : Nat) : Int) := wrap64 (by omega) (by omega)
          refine ⟨ratT p, Int.natCast_nonneg i, gp, ?_⟩
          cases hn : decide (p.num < 0) with
          | true =>
            rw [hn] at e1 hneg
            rw [e1] at hR
            refine hR.mono ?_
            rintro _ rfl
            refine And.intro (fun _ => ?_) (fun h => by cases h)
            exact ⟨([], 4), rfl, fin _ (by rw [totR, ← hneg])⟩
          | false =>
            rw [hn] at e1 hneg
            rw [e1] at hR
            refine hR.mono ?_
            rintro _ rfl
            refine And.intro (fun h => by cases h) (fun _ => ?_)
            have sp := fit_sz fp
            have sq := fit_sz fq
            have sm := sz_mul sp sq
            have sm2 := sz_mul sm sq
            have sa := sz_add hS sm2
            refine ⟨ratT q, Int.natCast_nonneg i, gq, ?_⟩
            refine (Parse_t q fq).mono ?_
            rintro _ rfl
            refine And.intro rfl ?_
            refine And.intro rfl ?_
            refine ⟨ratT p, Int.natCast_nonneg i, gp, ?_⟩
            refine (Parse_t p fp).mono ?_
            rintro _ rfl
            refine And.intro rfl ?_
            refine (RMul_t p q (by decide : 208 ≤ 100000) sp sq).mono ?_
            rintro _ rfl
            refine And.intro rfl ?_
            refine (RMul_t (p * q) q (by decide : 416 ≤ 100000) sm (sz_mono (by decide) sq)).mono ?_
            rintro _ rfl
            refine (RAdd_t S (p * q * q) (k := 26000) (by decide) (sz_mono (by omega) hS) (sz_mono (by decide) sm2)).mono ?_
            rintro _ rfl
            refine And.intro rfl ?_
            refine ⟨(i + 1, S + p * q * q), ⟨hlt, sz_mono (by show 625 * i + 1 + (208 + 208 + 208) + 1 ≤ 625 * (i + 1) + 1; omega) sa, hneg, by rw [← he, Rat.add_assoc]⟩, by show ps.length - (i + 1) < ps.length - i; omega, ?_⟩
            refine ent_of rfl rfl ?_ ?_
            · exact ⟨rfl, rfl, ⟨rfl, rfl⟩, rfl, wi.symm, trivial⟩
            · exact ⟨trivial, ⟨⟨rfl, rfl, rfl, rfl, trivial⟩, fun _ => rfl⟩, trivial⟩
        · have hi2 : i = ps.length := by have h' : ¬ (i : Int) < (rl.length : Int) := of_decide_eq_false h; omega
          rw [hi2, List.drop_length, lossQ_nil, Rat.add_zero] at he
          rw [hi2, List.drop_length, negB] at hneg
          subst he
          refine And.intro rfl ?_
          refine (ltext_t (lossQ ps qs)).mono ?_
          rintro _ rfl
          exact ⟨ratR (lossQ ps qs), rfl, fin _ (by rw [totR, ← hneg])⟩
      · refine ⟨Nat.zero_le _, sz_zero, rfl, ?_⟩
        show (0 : Rat) + lossQ (ps.drop 0) (qs.drop 0) = _
        rw [Rat.zero_add]
        rfl
      · refine ent_of rfl rfl ?_ ?_
        · exact ⟨rfl, rfl, ⟨rfl, rfl⟩, rfl, rfl, trivial⟩
        · exact ⟨trivial, ⟨⟨rfl, rfl, rfl, rfl, trivial⟩, fun _ => rfl⟩, trivial⟩
  · exact ⟨by decide, fun h => absurd h (by decide), fun h => absurd h (by decide)⟩
  · refine ent_of rfl rfl ?_ ?_
    · exact ⟨rfl, rfl, ⟨rfl, rfl, rfl⟩, rfl, rfl, trivial⟩
    · exact ⟨⟨rfl, fun _ => rfl⟩, trivial⟩
end Go.Proofs.YtnfgnkbgajhhbaaGreatDoor
