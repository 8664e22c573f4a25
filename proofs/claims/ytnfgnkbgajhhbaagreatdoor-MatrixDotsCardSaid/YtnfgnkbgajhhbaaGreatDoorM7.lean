/-
  The laws MatrixChecks, MatrixDots.
-/
import Derived.Test.YtnfgnkbgajhhbaaGreatDoorTx9
import Derived.Test.YtnfgnkbgajhhbaaGreatDoorMF
set_option linter.constructorNameAsVariable false
set_option linter.unusedSimpArgs false
set_option linter.unusedVariables false
namespace Go.Proofs.YtnfgnkbgajhhbaaGreatDoor
open Go.Am Go.Tx Dv Go.Lib
set_option maxRecDepth 100000
theorem MatrixChecks_l (m : List (List (List UInt8))) (v : List (List UInt8)) (hm : ∀ r ∈ m, ∀ a ∈ r, a.length ≤ 9223372036854775806) (hv : ∀ a ∈ v, a.length ≤ 9223372036854775806) : PureOK Tryz.prog hints 3 [.v (.l (.l .s)) m, .v (.l .s) v] (fun V => V = .v .b true) := by
  refine pure_rule (fn := Tryz.f3) (code := bodyOf Tryz.f3) tys_ok (by kernel_rfl) rfl Tryz.func3 (by kernel_rfl) (Nat.le_of_ble_eq_true (by kernel_rfl)) ?_
  have c1 := MCheck_t m hm
  have c2 := MatrixError_t m hm
  have c3 := CheckVec_t v hv
  have c4 := VecError_t v hv
  obtain ⟨E, eE⟩ : ∃ x, matE m = x := ⟨_, rfl⟩
  obtain ⟨F, eF⟩ : ∃ x, vecE v = x := ⟨_, rfl⟩
  rw [eE] at c1 c2
  rw [eF] at c3 c4
  have hE := decide_eq_true (rfl : E = E)
  have hF := decide_eq_true (rfl : F = F)
  repeat (first | refine wpg_skipc ?_ | refine wpg_next ?_ | refine wpg_blkout ?_)
  first | refine wpg_seq (wpg_region (id := 0) rfl ?_) | refine wpg_seq (wpg_seq (wpg_region (id := 0) rfl ?_)) | refine wpg_region (id := 0) rfl ?_ | refine wpg_seq (wpg_block rfl (wpg_seq (wpg_region (id := 0) rfl ?_))) | refine wpg_block rfl (wpg_seq (wpg_region (id := 0) rfl ?_))
  refine wpg_v rfl (fun _ => rfl) rfl rfl ?_
  refine wpg_nil ?_
  repeat (first | refine wpg_next ?_ | refine wpg_blkout ?_)
  repeat (first | refine wpg_skipc ?_ | refine wpg_next ?_ | refine wpg_blkout ?_)
  first | refine wpg_seq (wpg_region (id := 1) rfl ?_) | refine wpg_seq (wpg_seq (wpg_region (id := 1) rfl ?_)) | refine wpg_region (id := 1) rfl ?_ | refine wpg_seq (wpg_block rfl (wpg_seq (wpg_region (id := 1) rfl ?_))) | refine wpg_block rfl (wpg_seq (wpg_region (id := 1) rfl ?_))
  refine wpg_op rfl ((matrixFact_t).mono ?_)
  rintro _ rfl
  refine wpg_put rfl rfl ?_
  refine wpg_v rfl (fun _ => rfl) rfl rfl ?_
  refine wpg_vg rfl rfl rfl rfl (fun _ => rfl) rfl rfl ?_
  refine wpg_run rfl rfl rfl rfl ((c1).mono ?_)
  rintro _ rfl
  refine wpg_put rfl rfl ?_
  refine wpg_vg rfl rfl rfl rfl (fun _ => rfl) rfl rfl ?_
  refine wpg_run rfl rfl rfl rfl ((c2).mono ?_)
  rintro _ rfl
  refine wpg_put rfl rfl ?_
  refine wpg_vg rfl rfl rfl rfl (fun _ => rfl) rfl rfl ?_
  refine wpg_pt rfl rfl rfl rfl rfl rfl rfl ?_
  refine wpg_v rfl (fun _ => rfl) rfl rfl ?_
  refine wpg_vg rfl rfl rfl hE (fun _ => rfl) rfl rfl ?_
  refine wpg_run rfl rfl rfl hE ((c3).mono ?_)
  rintro _ rfl
  refine wpg_put rfl rfl ?_
  refine wpg_vg rfl rfl rfl hE (fun _ => rfl) rfl rfl ?_
  refine wpg_run rfl rfl rfl hE ((c4).mono ?_)
  rintro _ rfl
  refine wpg_put rfl rfl ?_
  refine wpg_vg rfl rfl rfl hE (fun _ => rfl) rfl rfl ?_
  refine wpg_pt rfl rfl rfl hE rfl rfl rfl ?_
  refine wpg_v rfl (fun _ => rfl) rfl rfl ?_
  refine wpg_nil ?_
  repeat (first | refine wpg_next ?_ | refine wpg_blkout ?_)
  show SV.v .b (decide (F = F)) = _
  rw [hF]
theorem dotQ_dz : ∀ {ps qs : List Rat}, (∀ p ∈ ps, dz p 12) → (∀ q ∈ qs, dz q 12) → dz (dotQ ps qs) (25 * ps.length + 1)
  | [], _, _, _ => by rw [dotQ_nil]; exact dz_mono (by simp) dz_zero
  | p :: ps, [], _, _ => dz_mono (by simp) (show dz (dotQ (p :: ps) []) 1 from dz_zero)
  | p :: ps, q :: qs, h1, h2 => by
    rw [dotQ]
    have a1 := h1 p List.mem_cons_self
    have a2 := h2 q List.mem_cons_self
    have a3 := dotQ_dz (fun x hx => h1 x (List.mem_cons_of_mem _ hx)) (fun x hx => h2 x (List.mem_cons_of_mem _ hx))
    exact dz_mono (by rw [List.length_cons]; omega) (dz_add (dz_mul a1 a2) a3)
set_option maxHeartbeats 8000000 in
theorem RDot_t (ps qs : List Rat) (hlen : ps.length = qs.length) (h40 : ps.length ≤ 40) (dp : ∀ p ∈ ps, dz p 12) (dq : ∀ q ∈ qs, dz q 12) : PureOK Tryz.prog hints 22 [.v (.l .s) (ps.map ratT), .v (.l .s) (qs.map ratT)] (fun V => V = .v .s (ratT (dotQ ps qs))) := by
  refine pure_rule (fn := Tryz.f22) (code := bodyOf Tryz.f22) tys_ok (by kernel_rfl) rfl Tryz.func22 (by kernel_rfl) (Nat.le_of_ble_eq_true (by kernel_rfl)) ?_
  have hll : (ps.map ratT).length = ps.length := List.length_map _
  have hgp : ∀ i (h : i < ps.length), (ps.map ratT)[i]? = some (ratT ps[i]) := fun i h => by
    rw [List.getElem?_map, List.getElem?_eq_getElem h]
    rfl
  have hgq : ∀ i (h : i < qs.length), (qs.map ratT)[i]? = some (ratT qs[i]) := fun i h => by
    rw [List.getElem?_map, List.getElem?_eq_getElem h]
    rfl
  obtain ⟨r, hr⟩ : ∃ l, ps.map ratT = l := ⟨_, rfl⟩
  obtain ⟨f, hf⟩ : ∃ l, qs.map ratT = l := ⟨_, rfl⟩
  rw [hr] at hll hgp ⊢
  rw [hf] at hgq ⊢
  have w0 : IntKind.i64.wrap ((r.length : Int) - 1) = ((ps.length : Nat) : Int) - 1 := by rw [hll]; exact wrap64 (by omega) (by omega)
  have e0 : ratT (dotQ (ps.drop ps.length) (qs.drop ps.length)) = [48] := by rw [List.drop_length, dotQ_nil, ratT_zero]
  refine loop_wp tys_ok rfl (fun (k : Nat) => [(0, .v (.l .s) r), (1, .v (.l .s) f), (5, .v .s (ratT (dotQ (ps.drop k) (qs.drop k)))), (6, .v (.i .i64) ((k : Int) - 1))]) (fun _ => [])
    (fun k => k ≤ ps.length) (fun k => k) ?_ ps.length ?_ ?_
  · intro k hk
    refine And.intro (fun h => ?_) (fun h => ?_)
    · obtain ⟨j, rfl⟩ : ∃ j, k = j + 1 := ⟨k - 1, by have h' : (0 : Int) ≤ (k : Int) - 1 := of_decide_eq_true h; omega⟩
      have hlt : j < ps.length := hk
      have hlt2 : j < qs.length := by omega
      have ej : (((j + 1 : Nat) : Int) - 1).toNat = j := by omega
      have gp : r[(((j + 1 : Nat) : Int) - 1).toNat]? = some (ratT ps[j]) := by rw [ej]; exact hgp j hlt
      have gq : f[(((j + 1 : Nat) : Int) - 1).toNat]? = some (ratT qs[j]) := by rw [ej]; exact hgq j hlt2
      have hst := dotQ_step hlt hlt2
      have d1 := dp ps[j] (List.getElem_mem hlt)
      have d2 := dq qs[j] (List.getElem_mem hlt2)
      have dS : dz (dotQ (ps.drop (j + 1)) (qs.drop (j + 1))) 2000 := dz_mono (by rw [List.length_drop]; omega) (dotQ_dz (fun x hx => dp x (List.mem_of_mem_drop hx)) (fun x hx => dq x (List.mem_of_mem_drop hx)))
      obtain ⟨p, hp0⟩ : ∃ x, ps[j] = x := ⟨_, rfl⟩
      obtain ⟨q, hq0⟩ : ∃ x, qs[j] = x := ⟨_, rfl⟩
      rw [hp0] at gp d1 hst
      rw [hq0] at gq d2 hst
      have hn : (0 : Int) ≤ ((j + 1 : Nat) : Int) - 1 := by omega
      have wi : IntKind.i64.wrap (((j + 1 : Nat) : Int) - 1 - 1) = (j : Int) - 1 := by
        have e : ((j + 1 : Nat) : Int) - 1 - 1 = (j : Int) - 1 := by omega
        rw [e]
        exact wrap64 (by omega) (by omega)
      refine ⟨ratT p, hn, gp, ?_⟩
      refine ⟨ratT q, hn, gq, ?_⟩
      refine (RatMul_t p q (by decide : 12 ≤ 40000) d1 d2).mono ?_
      rintro _ rfl
      refine (RatAdd_t (p * q) (dotQ (ps.drop (j + 1)) (qs.drop (j + 1))) (k := 2000) (by decide) (dz_mono (by decide) (dz_mul d1 d2)) dS).mono ?_
      rintro _ rfl
      refine ⟨j, Nat.le_of_lt hlt, Nat.lt_succ_self j, ?_⟩
      refine ent_of rfl rfl ?_ ?_
      · exact ⟨rfl, rfl, congrArg ratT hst, wi.symm, trivial⟩
      · exact trivial
    · have hk0 : k = 0 := by have h' : ¬ (0 : Int) ≤ (k : Int) - 1 := of_decide_eq_false h; omega
      subst hk0
      rfl
  · exact Nat.le_refl _
  · refine ent_of rfl rfl ?_ ?_
    · exact ⟨rfl, rfl, e0, w0.symm, trivial⟩
    · exact trivial
/-- What matrix.Dot answers. -/
def DotP (r f : List (List UInt8)) (x : List UInt8 × Int) : Prop :=
  (fst2 (vecE r) (vecE f) ≠ 0 ∧ x = ([], fst2 (vecE r) (vecE f))) ∨ (fst2 (vecE r) (vecE f) = 0 ∧ r.length ≠ f.length ∧ x = ([], 3)) ∨
  (fst2 (vecE r) (vecE f) = 0 ∧ r.length = f.length ∧ ∃ ps qs, r = ps.map ratT ∧ f = qs.map ratT ∧ (∀ p ∈ ps, fitQ p = true) ∧ (∀ q ∈ qs, fitQ q = true) ∧ x = ratR (dotQ ps qs))
set_option maxHeartbeats 8000000 in
theorem MDot_t (r f : List (List UInt8)) (hr : ∀ a ∈ r, a.length ≤ 9223372036854775806) (hf : ∀ a ∈ f, a.length ≤ 9223372036854775806) : PureOK Tryz.prog hints 23 [.v (.l .s) r, .v (.l .s) f] (fun V => ∃ x, V = rs x ∧ DotP r f x) := by
  refine pure_rule (fn := Tryz.f23) (code := bodyOf Tryz.f23) tys_ok (by kernel_rfl) rfl Tryz.func23 (by kernel_rfl) (Nat.le_of_ble_eq_true (by kernel_rfl)) ?_
  refine (CheckVec_t r hr).mono ?_
  rintro _ rfl
  refine (CheckVec_t f hf).mono ?_
  rintro _ rfl
  refine And.intro (show 0 + 2 ≤ 2 by decide) ?_
  refine (mfirst2_t (vecE r) (vecE f)).mono ?_
  rintro _ rfl
  refine And.intro (fun h => ?_) (fun h => ?_)
  · have h' : (!decide (fst2 (vecE r) (vecE f) = 0)) = true := h
    have hne : fst2 (vecE r) (vecE f) ≠ 0 := by simpa using h'
    exact ⟨([], fst2 (vecE r) (vecE f)), rfl, .inl ⟨hne, rfl⟩⟩
  have h' : (!decide (fst2 (vecE r) (vecE f) = 0)) = false := h
  have hE : fst2 (vecE r) (vecE f) = 0 := by simpa using h'
  refine And.intro (fun h => ?_) (fun h => ?_)
  · have h' : (!decide ((r.length : Int) = (f.length : Int))) = true := h
    have hne : ¬ (r.length : Int) = (f.length : Int) := by simpa using h'
    exact ⟨([], 3), rfl, .inr (.inl ⟨hE, fun e => hne (by rw [e]), rfl⟩)⟩
  have h' : (!decide ((r.length : Int) = (f.length : Int))) = false := h
  have heq : (r.length : Int) = (f.length : Int) := by simpa using h'
  obtain ⟨z1, z2⟩ := fst2_zero hE
  obtain ⟨l1, s1⟩ := vecE_zero z1
  obtain ⟨l2, s2⟩ := vecE_zero z2
  obtain ⟨ps, hrp, hps⟩ := all_rat (ratEs_zero s1)
  obtain ⟨qs, hfq, hqs⟩ := all_rat (ratEs_zero s2)
  have k1 : r.length = ps.length := by rw [hrp, List.length_map]
  have k2 : f.length = qs.length := by rw [hfq, List.length_map]
  have fin : ∀ x, x = ratR (dotQ ps qs) → DotP r f x := fun x hx => .inr (.inr ⟨hE, by omega, ps, qs, hrp, hfq, hps, hqs, hx⟩)
  have i1 := ParseAll_i ps (by omega) hps
  have i2 := ParseAll_i qs (by omega) hqs
  rw [← hrp] at i1
  rw [← hfq] at i2
  refine i1.mono ?_
  rintro _ _ _ ⟨rfl, rfl, rfl⟩
  refine i2.mono ?_
  rintro _ _ _ ⟨rfl, rfl, rfl⟩
  have hRT := RText_t (dotQ ps qs)
  refine And.intro (show 0 + ps.length ≤ (ps.map encQ).length by simp) ?_
  refine And.intro (show 0 + qs.length ≤ (qs.map encQ).length by simp) ?_
  refine (LDot_s ps qs (by omega) (by omega) hps hqs).mono ?_
  rintro _ rfl
  have hR : ratR (dotQ ps qs) = match fitQ (dotQ ps qs) with | true => (ratT (dotQ ps qs), 0) | false => ([], 2) := rfl
  obtain ⟨fb, hfb⟩ : ∃ x, fitQ (dotQ ps qs) = x := ⟨_, rfl⟩
  rw [hfb] at hRT hR
  refine hRT.mono ?_
  rintro _ ⟨X, rfl, hX⟩
  cases fb with
  | false =>
    refine And.intro (fun _ => ?_) (fun h => nomatch h)
    exact ⟨([], 2), rfl, fin _ hR.symm⟩
  | true =>
    refine And.intro (fun h => nomatch h) (fun _ => ?_)
    rw [hX rfl]
    exact ⟨(ratT (dotQ ps qs), 0), rfl, fin _ hR.symm⟩
set_option maxHeartbeats 8000000 in
theorem MatrixDots_l (r f : List (List UInt8)) (hr : ∀ a ∈ r, a.length ≤ 9223372036854775806) (hf : ∀ a ∈ f, a.length ≤ 9223372036854775806) : PureOK Tryz.prog hints 5 [.v (.l .s) r, .v (.l .s) f] (fun V => V = .v .b true) := by
  refine pure_rule (fn := Tryz.f5) (code := bodyOf Tryz.f5) tys_ok (by kernel_rfl) rfl Tryz.func5 (by kernel_rfl) (Nat.le_of_ble_eq_true (by kernel_rfl)) ?_
  have cR := VecError_t r hr
  have cF := VecError_t f hf
  have hvst := vast_two r f
  refine matrixFact_t.mono ?_
  rintro _ rfl
  refine And.intro (fun h => nomatch h) (fun _ => ?_)
  refine (MDot_t r f hr hf).mono ?_
  rintro _ ⟨⟨X, e⟩, rfl, hT⟩
  refine cR.mono ?_
  rintro _ rfl
  refine cF.mono ?_
  rintro _ rfl
  refine And.intro (show 0 + 2 ≤ 2 by decide) ?_
  have cG := gfirst2_t (vecE r) (vecE f)
  obtain ⟨E, eE⟩ : ∃ x, fst2 (vecE r) (vecE f) = x := ⟨_, rfl⟩
  rw [eE] at cG
  refine cG.mono ?_
  rintro _ rfl
  have hEE := decide_eq_true (rfl : E = E)
  rcases hT with ⟨h0, hx⟩ | ⟨h0, hl, hx⟩ | ⟨h0, hl, ps, qs, hrp, hfq, hp, hq, hx⟩
  · rw [eE] at h0 hx
    cases hx
    have hE0 := decide_eq_false h0
    have hEn : (!decide (e = 0)) = true := by rw [hE0]; rfl
    repeat (first | refine wpg_skipc ?_ | refine wpg_next ?_ | refine wpg_blkout ?_)
    first | refine wpg_seq (wpg_region (id := 5) rfl ?_) | refine wpg_seq (wpg_seq (wpg_region (id := 5) rfl ?_)) | refine wpg_region (id := 5) rfl ?_ | refine wpg_seq (wpg_block rfl (wpg_seq (wpg_region (id := 5) rfl ?_))) | refine wpg_block rfl (wpg_seq (wpg_region (id := 5) rfl ?_))
    refine wpg_v rfl (fun _ => rfl) rfl rfl ?_
    refine wpg_v rfl (fun _ => rfl) rfl rfl ?_
    refine wpg_v rfl (fun _ => rfl) rfl rfl ?_
    refine wpg_skip rfl rfl rfl hE0 rfl rfl ?_
    refine wpg_skip rfl rfl rfl hE0 rfl rfl ?_
    refine wpg_skip rfl rfl rfl hE0 rfl rfl ?_
    refine wpg_skip rfl rfl rfl hE0 rfl rfl ?_
    refine wpg_skip rfl rfl rfl hE0 rfl rfl ?_
    refine wpg_pf rfl rfl rfl hE0 rfl rfl rfl ?_
    refine wpg_nil ?_
    repeat (first | refine wpg_next ?_ | refine wpg_blkout ?_)
    refine And.intro (fun h => by cases h) (fun _ => ?_)
    refine And.intro (fun _ => ?_) (fun h => by first | (cases h; done) | exact (nf hEn h).elim)
    repeat (first | refine wpg_skipc ?_ | refine wpg_next ?_ | refine wpg_blkout ?_)
    first | refine wpg_seq (wpg_region (id := 8) rfl ?_) | refine wpg_seq (wpg_seq (wpg_region (id := 8) rfl ?_)) | refine wpg_region (id := 8) rfl ?_ | refine wpg_seq (wpg_block rfl (wpg_seq (wpg_region (id := 8) rfl ?_))) | refine wpg_block rfl (wpg_seq (wpg_region (id := 8) rfl ?_))
    refine wpg_v rfl (fun _ => rfl) rfl rfl ?_
    refine wpg_v rfl (fun _ => rfl) rfl rfl ?_
    refine wpg_v rfl (fun _ => rfl) rfl rfl ?_
    refine wpg_v rfl (fun _ => rfl) rfl rfl ?_
    refine wpg_vg rfl rfl rfl hEE (fun _ => rfl) rfl rfl ?_
    refine wpg_vg rfl rfl rfl hEE (fun _ => rfl) rfl rfl ?_
    refine wpg_pt rfl rfl rfl hEE rfl rfl rfl ?_
    refine wpg_v rfl (fun _ => rfl) rfl rfl ?_
    refine wpg_nil ?_
    repeat (first | refine wpg_next ?_ | refine wpg_blkout ?_)
    rfl
  · rw [eE] at h0
    subst h0
    cases hx
    have hne : (!decide ((r.length : Int) = (f.length : Int))) = true := by
      rw [decide_eq_false (fun h => hl (by omega))]
      rfl
    repeat (first | refine wpg_skipc ?_ | refine wpg_next ?_ | refine wpg_blkout ?_)
    first | refine wpg_seq (wpg_region (id := 5) rfl ?_) | refine wpg_seq (wpg_seq (wpg_region (id := 5) rfl ?_)) | refine wpg_region (id := 5) rfl ?_ | refine wpg_seq (wpg_block rfl (wpg_seq (wpg_region (id := 5) rfl ?_))) | refine wpg_block rfl (wpg_seq (wpg_region (id := 5) rfl ?_))
    refine wpg_v rfl (fun _ => rfl) rfl rfl ?_
    refine wpg_v rfl (fun _ => rfl) rfl rfl ?_
    refine wpg_v rfl (fun _ => rfl) rfl rfl ?_
    refine wpg_vg rfl rfl rfl rfl (fun _ => rfl) rfl rfl ?_
    refine wpg_vg rfl rfl rfl rfl (fun _ => rfl) rfl rfl ?_
    refine wpg_vg rfl rfl rfl rfl (fun _ => rfl) rfl rfl ?_
    refine wpg_vg rfl rfl rfl rfl (fun _ => rfl) rfl rfl ?_
    refine wpg_vg rfl rfl rfl rfl (fun _ => rfl) rfl rfl ?_
    refine wpg_pt rfl rfl rfl rfl rfl rfl rfl ?_
    refine wpg_nil ?_
    repeat (first | refine wpg_next ?_ | refine wpg_blkout ?_)
    refine And.intro (fun _ => ?_) (fun h => by first | (cases h; done) | exact (nf hne h).elim)
    repeat (first | refine wpg_skipc ?_ | refine wpg_next ?_ | refine wpg_blkout ?_)
    first | refine wpg_seq (wpg_region (id := 6) rfl ?_) | refine wpg_seq (wpg_seq (wpg_region (id := 6) rfl ?_)) | refine wpg_region (id := 6) rfl ?_ | refine wpg_seq (wpg_block rfl (wpg_seq (wpg_region (id := 6) rfl ?_))) | refine wpg_block rfl (wpg_seq (wpg_region (id := 6) rfl ?_))
    refine wpg_v rfl (fun _ => rfl) rfl rfl ?_
    refine wpg_nil ?_
    repeat (first | refine wpg_next ?_ | refine wpg_blkout ?_)
    refine And.intro (fun _ => ?_) (fun h => by cases h)
    repeat (first | refine wpg_skipc ?_ | refine wpg_next ?_ | refine wpg_blkout ?_)
    first | refine wpg_seq (wpg_region (id := 8) rfl ?_) | refine wpg_seq (wpg_seq (wpg_region (id := 8) rfl ?_)) | refine wpg_region (id := 8) rfl ?_ | refine wpg_seq (wpg_block rfl (wpg_seq (wpg_region (id := 8) rfl ?_))) | refine wpg_block rfl (wpg_seq (wpg_region (id := 8) rfl ?_))
    refine wpg_v rfl (fun _ => rfl) rfl rfl ?_
    refine wpg_v rfl (fun _ => rfl) rfl rfl ?_
    refine wpg_v rfl (fun _ => rfl) rfl rfl ?_
    refine wpg_v rfl (fun _ => rfl) rfl rfl ?_
    refine wpg_vg rfl rfl rfl rfl (fun _ => rfl) rfl rfl ?_
    refine wpg_vg rfl rfl rfl rfl (fun _ => rfl) rfl rfl ?_
    refine wpg_pt rfl rfl rfl rfl rfl rfl rfl ?_
    refine wpg_v rfl (fun _ => rfl) rfl rfl ?_
    refine wpg_nil ?_
    repeat (first | refine wpg_next ?_ | refine wpg_blkout ?_)
    rfl
  · rw [eE] at h0
    subst h0
    have hne : (!decide ((r.length : Int) = (f.length : Int))) = false := by
      rw [decide_eq_true (by omega)]
      rfl
    have r40 : r.length ≤ 40 := by
      obtain ⟨z1, _⟩ := fst2_zero eE
      exact (vecE_zero z1).1
    have hll : r.length = ps.length := by rw [hrp, List.length_map]
    have hlq : f.length = qs.length := by rw [hfq, List.length_map]
    have hmp : ∀ p ∈ ps, ratT p ∈ r := fun p h => by rw [hrp]; exact List.mem_map_of_mem h
    have hmq : ∀ p ∈ qs, ratT p ∈ f := fun p h => by rw [hfq]; exact List.mem_map_of_mem h
    repeat (first | refine wpg_skipc ?_ | refine wpg_next ?_ | refine wpg_blkout ?_)
    first | refine wpg_seq (wpg_region (id := 5) rfl ?_) | refine wpg_seq (wpg_seq (wpg_region (id := 5) rfl ?_)) | refine wpg_region (id := 5) rfl ?_ | refine wpg_seq (wpg_block rfl (wpg_seq (wpg_region (id := 5) rfl ?_))) | refine wpg_block rfl (wpg_seq (wpg_region (id := 5) rfl ?_))
    refine wpg_v rfl (fun _ => rfl) rfl rfl ?_
    refine wpg_v rfl (fun _ => rfl) rfl rfl ?_
    refine wpg_v rfl (fun _ => rfl) rfl rfl ?_
    refine wpg_vg rfl rfl rfl rfl (fun _ => rfl) rfl rfl ?_
    refine wpg_vg rfl rfl rfl rfl (fun _ => rfl) rfl rfl ?_
    refine wpg_vg rfl rfl rfl rfl (fun _ => rfl) rfl rfl ?_
    refine wpg_vg rfl rfl rfl rfl (fun _ => rfl) rfl rfl ?_
    refine wpg_vg rfl rfl rfl rfl (fun _ => rfl) rfl rfl ?_
    refine wpg_pt rfl rfl rfl rfl rfl rfl rfl ?_
    refine wpg_nil ?_
    repeat (first | refine wpg_next ?_ | refine wpg_blkout ?_)
    refine And.intro (fun h => by first | (cases h; done) | exact (nf h hne).elim) (fun _ => ?_)
    refine And.intro (fun h => by cases h) (fun _ => ?_)
    cases hv : vastM 40 [[r, f]] with
    | true =>
      rw [hv] at hvst
      repeat (first | refine wpg_skipc ?_ | refine wpg_next ?_ | refine wpg_blkout ?_)
      first | refine wpg_seq (wpg_region (id := 9) rfl ?_) | refine wpg_seq (wpg_seq (wpg_region (id := 9) rfl ?_)) | refine wpg_region (id := 9) rfl ?_ | refine wpg_seq (wpg_block rfl (wpg_seq (wpg_region (id := 9) rfl ?_))) | refine wpg_block rfl (wpg_seq (wpg_region (id := 9) rfl ?_))
      refine wpg_v rfl (fun _ => rfl) rfl rfl ?_
      refine wpg_v rfl (fun _ => rfl) rfl rfl ?_
      refine wpg_m rfl (fun _ => rfl) rfl rfl ?_
      refine wpg_m rfl (fun _ => rfl) rfl rfl ?_
      refine wpg_op rfl (And.intro (show 0 + 1 ≤ 1 by decide) (And.intro (show 0 + 2 ≤ 2 by decide) ((hvst).mono ?_)))
      rintro _ rfl
      refine wpg_put rfl rfl ?_
      refine wpg_v rfl (fun _ => rfl) rfl rfl ?_
      refine wpg_skip rfl rfl rfl rfl rfl rfl ?_
      refine wpg_skip rfl rfl rfl rfl rfl rfl ?_
      refine wpg_skip rfl rfl rfl rfl rfl rfl ?_
      refine wpg_skipT rfl rfl rfl rfl rfl ?_
      refine wpg_skipT rfl rfl rfl rfl rfl ?_
      refine wpg_skipT rfl rfl rfl rfl rfl ?_
      refine wpg_skipT rfl rfl rfl rfl rfl ?_
      refine wpg_skipT rfl rfl rfl rfl rfl ?_
      refine wpg_skip rfl rfl rfl rfl rfl rfl ?_
      refine wpg_pt rfl rfl rfl rfl rfl rfl rfl ?_
      refine wpg_v rfl (fun _ => rfl) rfl rfl ?_
      refine wpg_nil ?_
      repeat (first | refine wpg_next ?_ | refine wpg_blkout ?_)
      rfl
    | false =>
      rw [hv] at hvst
      obtain ⟨l1, l2⟩ := vastM_two hv
      have dp : ∀ p ∈ ps, dz p 12 := fun p h => dz_text (l1 _ (hmp p h)) (by decide)
      have dq : ∀ q ∈ qs, dz q 12 := fun p h => dz_text (l2 _ (hmq p h)) (by decide)
      have dS : dz (dotQ ps qs) 2000 := dz_mono (by omega) (dotQ_dz dp dq)
      rw [ratR_dz (by decide) dS] at hx
      cases hx
      have hD := RDot_t ps qs (by omega) (by omega) dp dq
      rw [← hrp, ← hfq] at hD
      obtain ⟨Y, eY⟩ : ∃ x, ratT (dotQ ps qs) = x := ⟨_, rfl⟩
      rw [eY] at hD ⊢
      have bY := beq_self Y
      repeat (first | refine wpg_skipc ?_ | refine wpg_next ?_ | refine wpg_blkout ?_)
      first | refine wpg_seq (wpg_region (id := 9) rfl ?_) | refine wpg_seq (wpg_seq (wpg_region (id := 9) rfl ?_)) | refine wpg_region (id := 9) rfl ?_ | refine wpg_seq (wpg_block rfl (wpg_seq (wpg_region (id := 9) rfl ?_))) | refine wpg_block rfl (wpg_seq (wpg_region (id := 9) rfl ?_))
      refine wpg_v rfl (fun _ => rfl) rfl rfl ?_
      refine wpg_v rfl (fun _ => rfl) rfl rfl ?_
      refine wpg_m rfl (fun _ => rfl) rfl rfl ?_
      refine wpg_m rfl (fun _ => rfl) rfl rfl ?_
      refine wpg_op rfl (And.intro (show 0 + 1 ≤ 1 by decide) (And.intro (show 0 + 2 ≤ 2 by decide) ((hvst).mono ?_)))
      rintro _ rfl
      refine wpg_put rfl rfl ?_
      refine wpg_v rfl (fun _ => rfl) rfl rfl ?_
      refine wpg_vg rfl rfl rfl rfl (fun _ => rfl) rfl rfl ?_
      refine wpg_vg rfl rfl rfl rfl (fun _ => rfl) rfl rfl ?_
      refine wpg_vg rfl rfl rfl rfl (fun _ => rfl) rfl rfl ?_
      refine wpg_vg rfl rfl rfl rfl (fun _ => rfl) rfl rfl ?_
      refine wpg_vg rfl rfl rfl rfl (fun _ => rfl) rfl rfl ?_
      refine wpg_vg rfl rfl rfl rfl (fun _ => rfl) rfl rfl ?_
      refine wpg_run rfl rfl rfl rfl ((hD).mono ?_)
      rintro _ rfl
      refine wpg_put rfl rfl ?_
      refine wpg_vg rfl rfl rfl rfl (fun _ => rfl) rfl rfl ?_
      refine wpg_ptg rfl rfl rfl rfl rfl rfl rfl rfl rfl rfl ?_
      refine wpg_pf rfl rfl rfl rfl rfl rfl rfl ?_
      refine wpg_v rfl (fun _ => rfl) rfl rfl ?_
      refine wpg_nil ?_
      repeat (first | refine wpg_next ?_ | refine wpg_blkout ?_)
      show SV.v .b (Y == Y) = _
      rw [bY]
end Go.Proofs.YtnfgnkbgajhhbaaGreatDoor
