/-
  Vectors and matrices as texts, in plain Lean.
-/
import Derived.Test.YtnfgnkbgajhhbaaGreatDoorDq
import Derived.Test.YtnfgnkbgajhhbaaGreatDoorQ7
import Derived.Test.YtnfgnkbgajhhbaaGreatDoorQA
import Derived.Test.YtnfgnkbgajhhbaaGreatDoorQ9
import Derived.Test.YtnfgnkbgajhhbaaGreatDoorDe
import Derived.Test.YtnfgnkbgajhhbaaGreatDoorTx9
import Derived.Test.YtnfgnkbgajhhbaaGreatDoorAmC
set_option linter.constructorNameAsVariable false
set_option linter.unusedSimpArgs false
set_option linter.unusedVariables false
namespace Dv
open Go Go.Lib
def wid (m : List (List (List UInt8))) : Nat := match m with
  | [] => 0
  | r :: _ => r.length
def fst2 (a b : Int) : Int := match decide (a = 0) with
  | true => b
  | false => a
def fstE : List Int → Int
  | [] => 0
  | x :: r => match decide (x = 0) with
    | true => fstE r
    | false => x
theorem fstE_two (a b : Int) : fstE [a, b] = fst2 a b := by
  simp only [fstE, fst2]
  cases decide (a = 0) with
  | true =>
    simp only
    cases hb : decide (b = 0) with
    | true => simp only; exact (of_decide_eq_true hb).symm
    | false => rfl
  | false => rfl
theorem fst2_zero {a b : Int} (h : fst2 a b = 0) : a = 0 ∧ b = 0 := by
  unfold fst2 at h
  cases ha : decide (a = 0) with
  | true => rw [ha] at h; exact ⟨of_decide_eq_true ha, h⟩
  | false => rw [ha] at h; exact absurd h (of_decide_eq_false ha)
def longL (n : Int) : List (List UInt8) → Bool
  | [] => false
  | s :: r => match decide (n < (s.length : Int)) with
    | true => true
    | false => longL n r
theorem longL_all {n : Int} : ∀ {l : List (List UInt8)}, longL n l = false → ∀ a ∈ l, (a.length : Int) ≤ n
  | [], _, _, h => absurd h List.not_mem_nil
  | s :: r, h, a, ha => by
    rw [longL] at h
    cases h1 : decide (n < (s.length : Int)) with
    | true => rw [h1] at h; cases h
    | false =>
      rw [h1] at h
      rcases List.mem_cons.1 ha with rfl | ha
      · have := of_decide_eq_false h1; omega
      · exact longL_all h a ha
end Dv
/-
  Checks of vectors and matrices.
-/
set_option linter.unusedSimpArgs false
set_option linter.unusedVariables false
namespace Go.Proofs.YtnfgnkbgajhhbaaGreatDoor
open Go.Am Go.Tx Dv Go.Lib
set_option maxRecDepth 100000
end Go.Proofs.YtnfgnkbgajhhbaaGreatDoor
/-
  vast; loss.Exact, loss.Total.
-/
set_option linter.unusedSimpArgs false
set_option linter.unusedVariables false
namespace Go.Proofs.YtnfgnkbgajhhbaaGreatDoor
open Go.Am Go.Tx Dv Go.Lib
set_option maxRecDepth 100000
theorem ltext_t (q : Rat) : PureOK Tryz.prog hints 79 [QR q] (fun V => V = rs (ratR q)) := by
  refine pure_rule (fn := Tryz.f79) (code := bodyOf Tryz.f79) tys_ok (by kernel_rfl) rfl Tryz.func79 (by kernel_rfl) (Nat.le_of_ble_eq_true (by kernel_rfl)) ?_
  refine And.intro rfl ?_
  refine (RText_t q).mono ?_
  rintro _ ⟨X, rfl, hX⟩
  have hR : ratR q = match fitQ q with | true => (ratT q, 0) | false => ([], 2) := rfl
  obtain ⟨f, hf⟩ : ∃ f, fitQ q = f := ⟨_, rfl⟩
  rw [hf] at hX hR
  rw [hf, hR]
  cases f with
  | false =>
    refine And.intro (fun _ => ?_) (fun h => nomatch h)
    rfl
  | true =>
    refine And.intro (fun h => nomatch h) (fun _ => ?_)
    rw [hX rfl]
    rfl
def resQ (p : Rat) : Int := match decide (p.num < 0) with
  | true => 4
  | false => 0
theorem resistance_ok (p : Rat) (hp : fitQ p = true) : PureOK Tryz.prog hints 78 [.v .s (ratT p)] (fun V => V = .v (.i .i64) (resQ p)) := by
  refine pure_rule (fn := Tryz.f78) (code := bodyOf Tryz.f78) tys_ok (by kernel_rfl) rfl Tryz.func78 (by kernel_rfl) (Nat.le_of_ble_eq_true (by kernel_rfl)) ?_
  have e : decide (p.num.sign < 0) = decide (p.num < 0) := decide_eq_decide.2 Int.sign_neg_iff
  have hR : resQ p = match decide (p.num < 0) with | true => 4 | false => 0 := rfl
  rw [← e] at hR
  obtain ⟨s, hs⟩ : ∃ s, p.num.sign = s := ⟨_, rfl⟩
  have hS := QSign_ok p hp
  rw [hs] at hS hR
  rw [hR]
  refine hS.mono ?_
  rintro _ rfl
  cases b : decide (s < 0) with
  | true =>
    repeat (first | refine wpg_skipc ?_ | refine wpg_next ?_ | refine wpg_blkout ?_)
    first | refine wpg_seq (wpg_region (id := 2) rfl ?_) | refine wpg_seq (wpg_seq (wpg_region (id := 2) rfl ?_)) | refine wpg_region (id := 2) rfl ?_ | refine wpg_seq (wpg_block rfl (wpg_seq (wpg_region (id := 2) rfl ?_))) | refine wpg_block rfl (wpg_seq (wpg_region (id := 2) rfl ?_))
    refine wpg_v rfl (fun _ => rfl) rfl rfl ?_
    refine wpg_v rfl (fun _ => rfl) rfl rfl ?_
    refine wpg_v rfl (fun _ => rfl) rfl rfl ?_
    refine wpg_vg rfl rfl rfl rfl (fun _ => rfl) rfl rfl ?_
    refine wpg_vg rfl rfl rfl rfl (fun _ => rfl) rfl rfl ?_
    refine wpg_pt rfl rfl rfl rfl rfl rfl rfl ?_
    refine wpg_nil ?_
    repeat (first | refine wpg_next ?_ | refine wpg_blkout ?_)
    refine And.intro (fun _ => ?_) (fun h => by first | (cases h; done) | exact (nf b h).elim)
    rfl
  | false =>
    repeat (first | refine wpg_skipc ?_ | refine wpg_next ?_ | refine wpg_blkout ?_)
    first | refine wpg_seq (wpg_region (id := 2) rfl ?_) | refine wpg_seq (wpg_seq (wpg_region (id := 2) rfl ?_)) | refine wpg_region (id := 2) rfl ?_ | refine wpg_seq (wpg_block rfl (wpg_seq (wpg_region (id := 2) rfl ?_))) | refine wpg_block rfl (wpg_seq (wpg_region (id := 2) rfl ?_))
    refine wpg_v rfl (fun _ => rfl) rfl rfl ?_
    refine wpg_v rfl (fun _ => rfl) rfl rfl ?_
    refine wpg_v rfl (fun _ => rfl) rfl rfl ?_
    refine wpg_vg rfl rfl rfl rfl (fun _ => rfl) rfl rfl ?_
    refine wpg_vg rfl rfl rfl rfl (fun _ => rfl) rfl rfl ?_
    refine wpg_pt rfl rfl rfl rfl rfl rfl rfl ?_
    refine wpg_nil ?_
    repeat (first | refine wpg_next ?_ | refine wpg_blkout ?_)
    refine And.intro (fun h => by first | (cases h; done) | exact (nf h b).elim) (fun _ => ?_)
    rfl
theorem resistance_err (a : List UInt8) (hla : a.length ≤ 9223372036854775806) (hE : ratErr a ≠ 0) : PureOK Tryz.prog hints 78 [.v .s a] (fun V => V = .v (.i .i64) (ratErr a)) := by
  refine pure_rule (fn := Tryz.f78) (code := bodyOf Tryz.f78) tys_ok (by kernel_rfl) rfl Tryz.func78 (by kernel_rfl) (Nat.le_of_ble_eq_true (by kernel_rfl)) ?_
  have hS := QSign_err a hla hE
  obtain ⟨E, eE⟩ : ∃ x, ratErr a = x := ⟨_, rfl⟩
  rw [eE] at hS hE ⊢
  have h0 := decide_eq_false hE
  refine hS.mono ?_
  rintro _ rfl
  repeat (first | refine wpg_skipc ?_ | refine wpg_next ?_ | refine wpg_blkout ?_)
  first | refine wpg_seq (wpg_region (id := 2) rfl ?_) | refine wpg_seq (wpg_seq (wpg_region (id := 2) rfl ?_)) | refine wpg_region (id := 2) rfl ?_ | refine wpg_seq (wpg_block rfl (wpg_seq (wpg_region (id := 2) rfl ?_))) | refine wpg_block rfl (wpg_seq (wpg_region (id := 2) rfl ?_))
  refine wpg_v rfl (fun _ => rfl) rfl rfl ?_
  refine wpg_v rfl (fun _ => rfl) rfl rfl ?_
  refine wpg_v rfl (fun _ => rfl) rfl rfl ?_
  refine wpg_skip rfl rfl rfl h0 rfl rfl ?_
  refine wpg_skip rfl rfl rfl h0 rfl rfl ?_
  refine wpg_pf rfl rfl rfl h0 rfl rfl rfl ?_
  refine wpg_nil ?_
  repeat (first | refine wpg_next ?_ | refine wpg_blkout ?_)
  refine And.intro (fun h => by cases h) (fun _ => ?_)
  rfl
end Go.Proofs.YtnfgnkbgajhhbaaGreatDoor
/-
  Lists of rational numbers: ParseAll, Dot; first; vast.
-/
set_option linter.unusedSimpArgs false
set_option linter.unusedVariables false
namespace Go.Proofs.YtnfgnkbgajhhbaaGreatDoor
open Go.Am Go.Tx Dv Go.Lib
set_option maxRecDepth 100000
set_option maxHeartbeats 4000000 in
theorem gfirst_t (l : List Int) (hl : l.length ≤ 1000000) : PureOK Tryz.prog hints 17 [.v (.l (.i .i64)) l] (fun V => V = .v (.i .i64) (fstE l)) := by
  refine pure_rule (fn := Tryz.f17) (code := bodyOf Tryz.f17) tys_ok (by kernel_rfl) rfl Tryz.func17 (by kernel_rfl) (Nat.le_of_ble_eq_true (by kernel_rfl)) ?_
  refine loop_wp tys_ok rfl (fun (i : Nat) => [(5, .v (.l (.i .i64)) l), (6, .v (.i .i64) (l.length : Int)), (7, .v (.i .i64) (i : Int))]) (fun _ => [])
    (fun i => i ≤ l.length ∧ fstE (l.drop i) = fstE l) (fun i => l.length - i) ?_ 0 ?_ ?_
  · rintro i ⟨hi, he⟩
    refine And.intro (fun h => ?_) (fun h => ?_)
    · have hlt : i < l.length := by have h' : (i : Int) < (l.length : Int) := of_decide_eq_true h; omega
      obtain ⟨x, hx⟩ : ∃ x, l[i] = x := ⟨_, rfl⟩
      have gx : l[(i : Int).toNat]? = some x := by rw [Int.toNat_natCast, List.getElem?_eq_getElem hlt, hx]
      rw [List.drop_eq_getElem_cons hlt, hx, fstE] at he
      refine ⟨x, Int.natCast_nonneg i, gx, ?_⟩
      refine And.intro (fun h2 => ?_) (fun h2 => ?_)
      · have h2' : (!decide (x = 0)) = true := h2
        have hd : decide (x = 0) = false := by cases hd : decide (x = 0) <;> simp [hd] at h2' ⊢
        rw [hd] at he
        exact congrArg (SV.v (.i .i64)) he
      · have h2' : (!decide (x = 0)) = false := h2
        have hd : decide (x = 0) = true := by cases hd : decide (x = 0) <;> simp [hd] at h2' ⊢
        rw [hd] at he
        have wi : IntKind.i64.wrap ((i : Int) + 1) = ((i + 1 : Nat) : Int) := wrap64 (by omega) (by omega)
        refine ⟨i + 1, ⟨hlt, he⟩, by show l.length - (i + 1) < l.length - i; omega, ?_⟩
        refine ent_of rfl rfl ?_ ?_
        · exact ⟨rfl, rfl, wi.symm, trivial⟩
        · exact trivial
    · have hi2 : i = l.length := by have h' : ¬ (i : Int) < (l.length : Int) := of_decide_eq_false h; omega
      rw [List.drop_of_length_le (by omega)] at he
      exact congrArg (SV.v (.i .i64)) he
  · exact ⟨Nat.zero_le _, rfl⟩
  · refine ent_of rfl rfl ?_ ?_
    · exact ⟨rfl, rfl, rfl, trivial⟩
    · exact trivial
theorem gfirst2_t (a b : Int) : PureOK Tryz.prog hints 17 [.v (.l (.i .i64)) (sub [a, b] 0 2)] (fun V => V = .v (.i .i64) (fst2 a b)) := by
  have h := gfirst_t [a, b] (show 2 ≤ 1000000 by decide)
  rw [fstE_two] at h
  exact h
set_option maxHeartbeats 4000000 in
theorem ParseAll_i (ps : List Rat) (hl : ps.length ≤ 1000000) (hf : ∀ p ∈ ps, fitQ p = true) : ImpOK Tryz.prog hints 57 [.v (.l .s) (ps.map ratT)] (fun V hp sf => V = .ref 0 0 ps.length none ∧ hp = [.row qct (ps.map encQ) true] ∧ sf = false) := by
  refine imp_rule (fn := Tryz.f57) (code := bodyOf Tryz.f57) tys_ok (by kernel_rfl) Tryz.func57 (by kernel_rfl) (Nat.le_of_ble_eq_true (by kernel_rfl)) ?_
  have hll : (ps.map ratT).length = ps.length := List.length_map _
  have hg : ∀ i (h : i < ps.length), (ps.map ratT)[i]? = some (ratT ps[i]) := fun i h => by
    rw [List.getElem?_map, List.getElem?_eq_getElem h]
    rfl
  obtain ⟨l, hl0⟩ : ∃ l, ps.map ratT = l := ⟨_, rfl⟩
  rw [hl0] at hll hg ⊢
  refine And.intro (show 0 ≤ (l.length : Int) ∧ (l.length : Int) ≤ (l.length : Int) ∧ (64 : Int) * (l.length : Int) ≤ 281474976710656 ∧ (l.length : Int) < 9223372036854775808 by omega) ?_
  refine loop_wp tys_ok rfl (fun (t : Nat × List qct.D) => [(3, .ref 0 0 ps.length none), (9, .v (.l .s) l), (10, .v (.i .i64) (l.length : Int)), (11, .v (.i .i64) (t.1 : Int))]) (fun t => [.row qct t.2 true])
    (fun t => t.1 ≤ ps.length ∧ t.2.length = ps.length ∧ t.2.take t.1 = (ps.map encQ).take t.1) (fun t => ps.length - t.1) ?_ (0, List.replicate ps.length qct.z) ?_ ?_
  · rintro ⟨i, out⟩ ⟨hi, hlen, hval⟩
    simp only at hi hlen hval
    refine And.intro (fun h => ?_) (fun h => ?_)
    · have hlt : i < ps.length := by have h' : (i : Int) < (l.length : Int) := of_decide_eq_true h; omega
      have gx : l[(i : Int).toNat]? = some (ratT ps[i]) := by rw [Int.toNat_natCast]; exact hg i hlt
      have hfx := hf ps[i] (List.getElem_mem hlt)
      have ho : i < out.length := by omega
      have wi : IntKind.i64.wrap ((i : Int) + 1) = ((i + 1 : Nat) : Int) := wrap64 (by omega) (by omega)
      have hq := QL_at (ps := ps) hlt
      obtain ⟨x, hx⟩ : ∃ x, ps[i] = x := ⟨_, rfl⟩
      rw [hx] at gx hfx hq
      refine ⟨ratT x, Int.natCast_nonneg i, gx, ?_⟩
      refine (Parse_t x hfx).mono ?_
      rintro _ rfl
      refine And.intro ⟨Int.natCast_nonneg i, by show (i : Int) < ((ps.length : Nat) : Int); omega⟩ ?_
      refine Exists.intro (out[i]) (And.intro (by simp) ?_)
      refine ⟨(i + 1, out.set i (encQ x)), ⟨hlt, by show (out.set _ _).length = _; simpa using hlen, ?_⟩, by show ps.length - (i + 1) < ps.length - i; omega, ?_⟩
      · show (out.set i (encQ x)).take (i + 1) = (ps.map encQ).take (i + 1)
        have h1 : (out.set i (encQ x)).take (i + 1) = out.take i ++ [encQ x] := by
          rw [List.take_succ_eq_append_getElem (by simpa using ho), List.getElem_set_self, List.take_set_of_le (Nat.le_refl _)]
        have h2 : (ps.map encQ).take (i + 1) = (ps.map encQ).take i ++ [encQ x] := by
          have hm : i < (ps.map encQ).length := by simpa using hlt
          rw [List.take_succ_eq_append_getElem hm]
          have : (ps.map encQ)[i] = encQ x := by rw [List.getElem?_eq_getElem hm] at hq; exact Option.some.inj hq
          rw [this]
        rw [h1, h2, hval]
      · have er : out.set i (encQ x) = out.set (0 + (i : Int).toNat) (encQ x) := by rw [Int.toNat_natCast, Nat.zero_add]
        refine ent_of rfl rfl ?_ ?_
        · exact ⟨⟨rfl, rfl, rfl⟩, rfl, rfl, wi.symm, trivial⟩
        · exact ⟨⟨er, fun _ => rfl⟩, trivial⟩
    · have hi2 : i = ps.length := by have h' : ¬ (i : Int) < (l.length : Int) := of_decide_eq_false h; omega
      have ho : out = ps.map encQ := by
        rw [hi2, List.take_of_length_le (by omega), List.take_of_length_le (by simp)] at hval
        exact hval
      refine ⟨.ref 0 0 ps.length none, [.row qct (ps.map encQ) true], ?_, rfl, rfl, rfl, rfl⟩
      refine ent_of rfl rfl ?_ ?_
      · exact ⟨⟨rfl, rfl, rfl⟩, trivial⟩
      · exact ⟨⟨ho.symm, fun _ => rfl⟩, trivial⟩
  · exact ⟨Nat.zero_le _, by simp, by simp⟩
  · have e1 : ps.length = ((l.length : Nat) : Int).toNat := by omega
    refine ent_of rfl rfl ?_ ?_
    · exact ⟨⟨rfl, e1, e1⟩, rfl, rfl, rfl, trivial⟩
    · exact ⟨⟨by rw [e1]; rfl, fun _ => rfl⟩, trivial⟩
end Go.Proofs.YtnfgnkbgajhhbaaGreatDoor
/-
  lossFact: run by the kernel.
-/
set_option linter.unusedSimpArgs false
set_option linter.unusedVariables false
namespace Go.Proofs.YtnfgnkbgajhhbaaGreatDoor
open Go.Am Go.Tx
set_option maxRecDepth 1000000 in
theorem lossFact_run : saysTrue ((evalF Tryz.prog hints 400).rn 30 [] []) = true := by decide +kernel
theorem lossFact_t : PureOK Tryz.prog hints 30 [] (fun V => V = .v .b true) := by
  refine ⟨fun qs hr => ?_⟩
  simp only [RL] at hr
  subst hr
  have h := lossFact_run
  cases hx : (evalF Tryz.prog hints 400).rn 30 [] [] with
  | none => rw [hx] at h; cases h
  | some x =>
    obtain ⟨v, H⟩ := x
    rw [hx] at h
    have hv : v = .bool true := by
      cases v <;> first | (cases h; done) | skip
      rename_i b
      cases b <;> first | rfl | cases h
    subst hv
    have hl := lim_of hx
    refine ⟨.bool true, .v .b true, ?_, by simp only [RV, RR], rfl⟩
    show ((lim Tryz.prog hints).rn 30 [] []).bind _ = _
    rw [hl]
    rfl
end Go.Proofs.YtnfgnkbgajhhbaaGreatDoor
/-
  loss.Exact, loss.Total; LossTotals.
-/
set_option linter.unusedSimpArgs false
set_option linter.unusedVariables false
namespace Go.Proofs.YtnfgnkbgajhhbaaGreatDoor
open Go.Am Go.Tx Dv Go.Lib
set_option maxRecDepth 100000
theorem all_rat : ∀ {l : List (List UInt8)}, (∀ a ∈ l, ratErr a = 0) → ∃ ps : List Rat, l = ps.map ratT ∧ ∀ p ∈ ps, fitQ p = true
  | [], _ => ⟨[], rfl, fun _ h => absurd h List.not_mem_nil⟩
  | a :: l, h => by
    obtain ⟨p, h1, h2⟩ := ratErr_zero (h a List.mem_cons_self)
    obtain ⟨ps, h3, h4⟩ := all_rat (l := l) (fun b hb => h b (List.mem_cons_of_mem _ hb))
    refine ⟨p :: ps, by rw [List.map_cons, ← h1, ← h3], fun q hq => ?_⟩
    rcases List.mem_cons.1 hq with rfl | hq
    · exact h2
    · exact h4 q hq
def exaR (p q : Rat) : List UInt8 × Int := match decide (p.num < 0) with
  | true => ([], 4)
  | false => ratR (p * q * q)
set_option maxHeartbeats 4000000 in
theorem Exact_ok (p q : Rat) (hp : fitQ p = true) (hq : fitQ q = true) : PureOK Tryz.prog hints 35 [.v .s (ratT p), .v .s (ratT q)] (fun V => V = rs (exaR p q)) := by
  refine pure_rule (fn := Tryz.f35) (code := bodyOf Tryz.f35) tys_ok (by kernel_rfl) rfl Tryz.func35 (by kernel_rfl) (Nat.le_of_ble_eq_true (by kernel_rfl)) ?_
  have hR := resistance_ok p hp
  have hc := RCheck_t (ratT q) (fit_le hq)
  rw [ratErr_ratT hq] at hc
  have e1 : resQ p = match decide (p.num < 0) with | true => 4 | false => 0 := rfl
  have e2 : exaR p q = match decide (p.num < 0) with | true => ([], 4) | false => ratR (p * q * q) := rfl
  have sp := fit_sz hp
  have sq := fit_sz hq
  have sm := sz_mul sp sq
  cases hn : decide (p.num < 0) with
  | true =>
    rw [hn] at e1 e2
    rw [e1] at hR
    rw [e2]
    refine hR.mono ?_
    rintro _ rfl
    refine And.intro (fun _ => rfl) (fun h => by cases h)
  | false =>
    rw [hn] at e1 e2
    rw [e1] at hR
    rw [e2]
    refine hR.mono ?_
    rintro _ rfl
    refine And.intro (fun h => by cases h) (fun _ => ?_)
    refine hc.mono ?_
    rintro _ rfl
    refine And.intro (fun h => by cases h) (fun _ => ?_)
    refine (Parse_t q hq).mono ?_
    rintro _ rfl
    refine And.intro rfl ?_
    refine (Parse_t p hp).mono ?_
    rintro _ rfl
    refine And.intro rfl ?_
    refine (RMul_t p q (by decide : 208 ≤ 100000) sp sq).mono ?_
    rintro _ rfl
    refine And.intro rfl ?_
    refine (RMul_t (p * q) q (by decide : 416 ≤ 100000) sm (sz_mono (by decide) sq)).mono ?_
    rintro _ rfl
    refine (ltext_t (p * q * q)).mono ?_
    rintro _ rfl
    rfl
end Go.Proofs.YtnfgnkbgajhhbaaGreatDoor
/-
  The law LossTotals.
-/
set_option linter.unusedSimpArgs false
set_option linter.unusedVariables false
namespace Go.Proofs.YtnfgnkbgajhhbaaGreatDoor
open Go.Am Go.Tx Dv Go.Lib
set_option maxRecDepth 100000
theorem exaR_pos {p q : Rat} (h : decide (p.num < 0) = false) : exaR p q = ratR (p * q * q) := by rw [exaR, h]
theorem ratR_dz {q : Rat} {k : Nat} (hk : k ≤ 2000) (h : dz q k) : ratR q = (ratT q, 0) := ratR_fit (dz_fit hk h)
theorem dz_zero : dz 0 1 := ⟨dl_le (by decide) (by decide), dl_le (by decide) (by decide)⟩
end Go.Proofs.YtnfgnkbgajhhbaaGreatDoor