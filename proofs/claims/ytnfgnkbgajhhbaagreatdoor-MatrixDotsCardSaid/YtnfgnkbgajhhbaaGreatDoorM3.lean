/-
  Lists of rational numbers: ParseAll, Dot; first; vast.
-/
import Derived.Test.YtnfgnkbgajhhbaaGreatDoorQ9
import Derived.Test.YtnfgnkbgajhhbaaGreatDoorDm
import Derived.Test.YtnfgnkbgajhhbaaGreatDoorM4
set_option linter.constructorNameAsVariable false
set_option linter.unusedSimpArgs false
set_option linter.unusedVariables false
namespace Go.Proofs.YtnfgnkbgajhhbaaGreatDoor
open Go.Am Go.Tx Dv Go.Lib
set_option maxRecDepth 100000
set_option maxHeartbeats 4000000 in
theorem mfirst_t (l : List Int) (hl : l.length ≤ 1000000) : PureOK Tryz.prog hints 51 [.v (.l (.i .i64)) l] (fun V => V = .v (.i .i64) (fstE l)) := by
  refine pure_rule (fn := Tryz.f51) (code := bodyOf Tryz.f51) tys_ok (by kernel_rfl) rfl Tryz.func51 (by kernel_rfl) (Nat.le_of_ble_eq_true (by kernel_rfl)) ?_
  refine loop_wp tys_ok rfl (fun (i : Nat) => [(5, .v (.l (.i .i64)) l), (6, .v (.i .i64) (l.length : Int)), (7, .v (.i .i64) (i : Int))]) (fun _ => [])
    (fun i => i ≤ l.length ∧ fstE (l.drop i) = fstE l) (fun i => l.length - i) ?_ 0 ?_ ?_
  · rintro i ⟨hi, he⟩
    refine And.intro (fun h => ?_) (fun h => ?_)
    · have hlt : i < l.length := by have h' : (i : Int) < (l.length : Int) := of_decide_eq_true h; omega
      obtain ⟨x, hx⟩ : ∃ x, l[i] = x := ⟨_, rfl⟩
      have gx : l[(i : Int).toNat]? = some x := by rw [Int.toNat_natCast, List.getElem?_eq_getElem hlt, hx]
      rw [List.drop_eq_getElem_cons hlt, hx, fstE] at he
      refine ⟨x, Int.natCast_nonneg i, gx, ?_⟩
      refine And.intro (fun h2 => ?_) (fun h2 => ?_)
      · have h2' : (!decide (x = 0)) = true := h2
        have hd : decide (x = 0) = false := by cases hd : decide (x = 0) <;> simp [hd] at h2' ⊢
        rw [hd] at he
        exact congrArg (SV.v (.i .i64)) he
      · have h2' : (!decide (x = 0)) = false := h2
        have hd : decide (x = 0) = true := by cases hd : decide (x = 0) <;> simp [hd] at h2' ⊢
        rw [hd] at he
        have wi : IntKind.i64.wrap ((i : Int) + 1) = ((i + 1 : Nat) : Int) := wrap64 (by omega) (by omega)
        refine ⟨i + 1, ⟨hlt, he⟩, by show l.length - (i + 1) < l.length - i; omega, ?_⟩
        refine ent_of rfl rfl ?_ ?_
        · exact ⟨rfl, rfl, wi.symm, trivial⟩
        · exact trivial
    · have hi2 : i = l.length := by have h' : ¬ (i : Int) < (l.length : Int) := of_decide_eq_false h; omega
      rw [List.drop_of_length_le (by omega)] at he
      exact congrArg (SV.v (.i .i64)) he
  · exact ⟨Nat.zero_le _, rfl⟩
  · refine ent_of rfl rfl ?_ ?_
    · exact ⟨rfl, rfl, rfl, trivial⟩
    · exact trivial
theorem mfirst2_t (a b : Int) : PureOK Tryz.prog hints 51 [.v (.l (.i .i64)) (sub [a, b] 0 2)] (fun V => V = .v (.i .i64) (fst2 a b)) := by
  have h := mfirst_t [a, b] (show 2 ≤ 1000000 by decide)
  rw [fstE_two] at h
  exact h
set_option maxHeartbeats 4000000 in
theorem gfirst_t (l : List Int) (hl : l.length ≤ 1000000) : PureOK Tryz.prog hints 17 [.v (.l (.i .i64)) l] (fun V => V = .v (.i .i64) (fstE l)) := by
  refine pure_rule (fn := Tryz.f17) (code := bodyOf Tryz.f17) tys_ok (by kernel_rfl) rfl Tryz.func17 (by kernel_rfl) (Nat.le_of_ble_eq_true (by kernel_rfl)) ?_
  refine loop_wp tys_ok rfl (fun (i : Nat) => [(5, .v (.l (.i .i64)) l), (6, .v (.i .i64) (l.length : Int)), (7, .v (.i .i64) (i : Int))]) (fun _ => [])
    (fun i => i ≤ l.length ∧ fstE (l.drop i) = fstE l) (fun i => l.length - i) ?_ 0 ?_ ?_
  · rintro i ⟨hi, he⟩
    refine And.intro (fun h => ?_) (fun h => ?_)
    · have hlt : i < l.length := by have h' : (i : Int) < (l.length : Int) := of_decide_eq_true h; omega
      obtain ⟨x, hx⟩ : ∃ x, l[i] = x := ⟨_, rfl⟩
      have gx : l[(i : Int).toNat]? = some x := by rw [Int.toNat_natCast, List.getElem?_eq_getElem hlt, hx]
      rw [List.drop_eq_getElem_cons hlt, hx, fstE] at he
      refine ⟨x, Int.natCast_nonneg i, gx, ?_⟩
      refine And.intro (fun h2 => ?_) (fun h2 => ?_)
      · have h2' : (!decide (x = 0)) = true := h2
        have hd : decide (x = 0) = false := by cases hd : decide (x = 0) <;> simp [hd] at h2' ⊢
        rw [hd] at he
        exact congrArg (SV.v (.i .i64)) he
      · have h2' : (!decide (x = 0)) = false := h2
        have hd : decide (x = 0) = true := by cases hd : decide (x = 0) <;> simp [hd] at h2' ⊢
        rw [hd] at he
        have wi : IntKind.i64.wrap ((i : Int) + 1) = ((i + 1 : Nat) : Int) := wrap64 (by omega) (by omega)
        refine ⟨i + 1, ⟨hlt, he⟩, by show l.length - (i + 1) < l.length - i; omega, ?_⟩
        refine ent_of rfl rfl ?_ ?_
        · exact ⟨rfl, rfl, wi.symm, trivial⟩
        · exact trivial
    · have hi2 : i = l.length := by have h' : ¬ (i : Int) < (l.length : Int) := of_decide_eq_false h; omega
      rw [List.drop_of_length_le (by omega)] at he
      exact congrArg (SV.v (.i .i64)) he
  · exact ⟨Nat.zero_le _, rfl⟩
  · refine ent_of rfl rfl ?_ ?_
    · exact ⟨rfl, rfl, rfl, trivial⟩
    · exact trivial
theorem gfirst2_t (a b : Int) : PureOK Tryz.prog hints 17 [.v (.l (.i .i64)) (sub [a, b] 0 2)] (fun V => V = .v (.i .i64) (fst2 a b)) := by
  have h := gfirst_t [a, b] (show 2 ≤ 1000000 by decide)
  rw [fstE_two] at h
  exact h
theorem RSign_t (q : Rat) : PureOK Tryz.prog hints 98 [QR q] (fun V => V = .v (.i .i64) q.num.sign) := by
  refine pure_rule (fn := Tryz.f98) (code := bodyOf Tryz.f98) tys_ok (by kernel_rfl) rfl Tryz.func98 (by kernel_rfl) (Nat.le_of_ble_eq_true (by kernel_rfl)) ?_
  refine And.intro rfl ?_
  refine (Sign_t q.num).mono ?_
  rintro _ rfl
  rfl
set_option maxHeartbeats 4000000 in
theorem ParseAll_i (ps : List Rat) (hl : ps.length ≤ 1000000) (hf : ∀ p ∈ ps, fitQ p = true) : ImpOK Tryz.prog hints 57 [.v (.l .s) (ps.map ratT)] (fun V hp sf => V = .ref 0 0 ps.length none ∧ hp = [.row qct (ps.map encQ) true] ∧ sf = false) := by
  refine imp_rule (fn := Tryz.f57) (code := bodyOf Tryz.f57) tys_ok (by kernel_rfl) Tryz.func57 (by kernel_rfl) (Nat.le_of_ble_eq_true (by kernel_rfl)) ?_
  have hll : (ps.map ratT).length = ps.length := List.length_map _
  have hg : ∀ i (h : i < ps.length), (ps.map ratT)[i]? = some (ratT ps[i]) := fun i h => by
    rw [List.getElem?_map, List.getElem?_eq_getElem h]
    rfl
  obtain ⟨l, hl0⟩ : ∃ l, ps.map ratT = l := ⟨_, rfl⟩
  rw [hl0] at hll hg ⊢
  refine And.intro (show 0 ≤ (l.length : Int) ∧ (l.length : Int) ≤ (l.length : Int) ∧ (64 : Int) * (l.length : Int) ≤ 281474976710656 ∧ (l.length : Int) < 9223372036854775808 by omega) ?_
  refine loop_wp tys_ok rfl (fun (t : Nat × List qct.D) => [(3, .ref 0 0 ps.length none), (9, .v (.l .s) l), (10, .v (.i .i64) (l.length : Int)), (11, .v (.i .i64) (t.1 : Int))]) (fun t => [.row qct t.2 true])
    (fun t => t.1 ≤ ps.length ∧ t.2.length = ps.length ∧ t.2.take t.1 = (ps.map encQ).take t.1) (fun t => ps.length - t.1) ?_ (0, List.replicate ps.length qct.z) ?_ ?_
  · rintro ⟨i, out⟩ ⟨hi, hlen, hval⟩
    simp only at hi hlen hval
    refine And.intro (fun h => ?_) (fun h => ?_)
    · have hlt : i < ps.length := by have h' : (i : Int) < (l.length : Int) := of_decide_eq_true h; omega
      have gx : l[(i : Int).toNat]? = some (ratT ps[i]) := by rw [Int.toNat_natCast]; exact hg i hlt
      have hfx := hf ps[i] (List.getElem_mem hlt)
      have ho : i < out.length := by omega
      have wi : IntKind.i64.wrap ((i : Int) + 1) = ((i + 1 : Nat) : Int) := wrap64 (by omega) (by omega)
      have hq := QL_at (ps := ps) hlt
      obtain ⟨x, hx⟩ : ∃ x, ps[i] = x := ⟨_, rfl⟩
      rw [hx] at gx hfx hq
      refine ⟨ratT x, Int.natCast_nonneg i, gx, ?_⟩
      refine (Parse_t x hfx).mono ?_
      rintro _ rfl
      refine And.intro ⟨Int.natCast_nonneg i, by show (i : Int) < ((ps.length : Nat) : Int); omega⟩ ?_
      refine Exists.intro (out[i]) (And.intro (by simp) ?_)
      refine ⟨(i + 1, out.set i (encQ x)), ⟨hlt, by show (out.set _ _).length = _; simpa using hlen, ?_⟩, by show ps.length - (i + 1) < ps.length - i; omega, ?_⟩
      · show (out.set i (encQ x)).take (i + 1) = (ps.map encQ).take (i + 1)
        have h1 : (out.set i (encQ x)).take (i + 1) = out.take i ++ [encQ x] := by
          rw [List.take_succ_eq_append_getElem (by simpa using ho), List.getElem_set_self, List.take_set_of_le (Nat.le_refl _)]
        have h2 : (ps.map encQ).take (i + 1) = (ps.map encQ).take i ++ [encQ x] := by
          have hm : i < (ps.map encQ).length := by simpa using hlt
          rw [List.take_succ_eq_append_getElem hm]
          have : (ps.map encQ)[i] = encQ x := by rw [List.getElem?_eq_getElem hm] at hq; exact Option.some.inj hq
          rw [this]
        rw [h1, h2, hval]
      · have er : out.set i (encQ x) = out.set (0 + (i : Int).toNat) (encQ x) := by rw [Int.toNat_natCast, Nat.zero_add]
        refine ent_of rfl rfl ?_ ?_
        · exact ⟨⟨rfl, rfl, rfl⟩, rfl, rfl, wi.symm, trivial⟩
        · exact ⟨⟨er, fun _ => rfl⟩, trivial⟩
    · have hi2 : i = ps.length := by have h' : ¬ (i : Int) < (l.length : Int) := of_decide_eq_false h; omega
      have ho : out = ps.map encQ := by
        rw [hi2, List.take_of_length_le (by omega), List.take_of_length_le (by simp)] at hval
        exact hval
      refine ⟨.ref 0 0 ps.length none, [.row qct (ps.map encQ) true], ?_, rfl, rfl, rfl, rfl⟩
      refine ent_of rfl rfl ?_ ?_
      · exact ⟨⟨rfl, rfl, rfl⟩, trivial⟩
      · exact ⟨⟨ho.symm, fun _ => rfl⟩, trivial⟩
  · exact ⟨Nat.zero_le _, by simp, by simp⟩
  · have e1 : ps.length = ((l.length : Nat) : Int).toNat := by omega
    refine ent_of rfl rfl ?_ ?_
    · exact ⟨⟨rfl, e1, e1⟩, rfl, rfl, rfl, trivial⟩
    · exact ⟨⟨by rw [e1]; rfl, fun _ => rfl⟩, trivial⟩
def dotH (S : Rat) : List SM := [.cell [.v .b false, .nils, .v .b false, .nils] true, .cell [.v .b (decide (S.num < 0)), u32s (wOf S.num.natAbs), .v .b (decide ((S.den : Int) < 0)), u32s (wOf (S.den : Int).natAbs)] true]
theorem dotQ_nil (qs : List Rat) : dotQ [] qs = 0 := by cases qs <;> rfl
theorem dotQ_step {ps qs : List Rat} {i : Nat} (h1 : i < ps.length) (h2 : i < qs.length) : dotQ (ps.drop i) (qs.drop i) = ps[i] * qs[i] + dotQ (ps.drop (i + 1)) (qs.drop (i + 1)) := by
  rw [List.drop_eq_getElem_cons h1, List.drop_eq_getElem_cons h2, dotQ]
set_option maxHeartbeats 8000000 in
theorem LDot_t (ps qs : List Rat) (hlen : ps.length = qs.length) (h40 : ps.length ≤ 40) (hp : ∀ p ∈ ps, fitQ p = true) (hq : ∀ q ∈ qs, fitQ q = true) : PureOK Tryz.prog hints 55 [QL ps, QL qs] (fun V => V = QR (dotQ ps qs)) := by
  refine pure_rule (fn := Tryz.f55) (code := bodyOf Tryz.f55) tys_ok (by kernel_rfl) rfl Tryz.func55 (by kernel_rfl) (Nat.le_of_ble_eq_true (by kernel_rfl)) ?_
  have hll : (ps.map encQ).length = ps.length := List.length_map _
  refine (Whole_t 0 (by decide) (by decide)).mono ?_
  rintro _ rfl
  refine And.intro rfl ?_
  refine loop_wp tys_ok rfl (fun (t : Nat × Rat) => [(0, QL ps), (1, QL qs), (4, .ptr 0 0 0), (5, .ptr 1 0 0), (9, .v (.i .i64) ((ps.map encQ).length : Int)), (10, .v (.i .i64) (t.1 : Int))]) (fun t => dotH t.2)
    (fun t => t.1 ≤ ps.length ∧ szQ t.2 (417 * t.1 + 1) ∧ t.2 + dotQ (ps.drop t.1) (qs.drop t.1) = dotQ ps qs) (fun t => ps.length - t.1) ?_ (0, 0) ?_ ?_
  · rintro ⟨i, S⟩ ⟨hi, hS, he⟩
    simp only at hi hS he
    refine And.intro (fun h => ?_) (fun h => ?_)
    · have hlt : i < ps.length := by have h' : (i : Int) < ((ps.map encQ).length : Int) := of_decide_eq_true h; omega
      have hlt2 : i < qs.length := by omega
      rw [dotQ_step hlt hlt2] at he
      have gp := QL_at (ps := ps) hlt
      have gq := QL_at (ps := qs) hlt2
      have hfp := hp ps[i] (List.getElem_mem hlt)
      have hfq := hq qs[i] (List.getElem_mem hlt2)
      obtain ⟨p, hp0⟩ : ∃ x, ps[i] = x := ⟨_, rfl⟩
      obtain ⟨q, hq0⟩ : ∃ x, qs[i] = x := ⟨_, rfl⟩
      rw [hp0] at gp hfp he
      rw [hq0] at gq hfq he
      have gp : (ps.map encQ)[(i : Int).toNat]? = some (encQ p) := by rw [Int.toNat_natCast]; exact gp
      have gq : (qs.map encQ)[(i : Int).toNat]? = some (encQ q) := by rw [Int.toNat_natCast]; exact gq
      have sp := RSign_t p
      have sq := RSign_t q
      have wi : IntKind.i64.wrap ((i : Int) + 1) = ((i + 1 : Nat) : Int) := wrap64 (by omega) (by omega)
      have same : p * q = 0 → ∃ t : Nat × Rat, t = (i + 1, S) ∧ (t.1 ≤ ps.length ∧ szQ t.2 (417 * t.1 + 1) ∧ t.2 + dotQ (ps.drop t.1) (qs.drop t.1) = dotQ ps qs) := fun hz => by
        refine ⟨_, rfl, hlt, sz_mono (by show 417 * i + 1 ≤ 417 * (i + 1) + 1; omega) hS, ?_⟩
        rw [hz, Rat.zero_add] at he
        exact he
      have sz0 : ∀ x : Rat, x.num.sign = 0 → x = 0 := fun x hx => Rat.num_eq_zero.1 (Int.sign_eq_zero_iff_zero.1 hx)
      obtain ⟨sgp, esp⟩ : ∃ x, p.num.sign = x := ⟨_, rfl⟩
      obtain ⟨sgq, esq⟩ : ∃ x, q.num.sign = x := ⟨_, rfl⟩
      rw [esp] at sp
      rw [esq] at sq
      repeat (first | refine wpg_skipc ?_ | refine wpg_next ?_ | refine wpg_blkout ?_)
      first | refine wpg_seq (wpg_region (id := 4) rfl ?_) | refine wpg_seq (wpg_seq (wpg_region (id := 4) rfl ?_)) | refine wpg_region (id := 4) rfl ?_ | refine wpg_seq (wpg_block rfl (wpg_seq (wpg_region (id := 4) rfl ?_))) | refine wpg_block rfl (wpg_seq (wpg_region (id := 4) rfl ?_))
      refine wpg_v rfl (fun _ => rfl) rfl rfl ?_
      refine wpg_v rfl (fun _ => rfl) rfl rfl ?_
      refine wpg_nil ?_
      repeat (first | refine wpg_next ?_ | refine wpg_blkout ?_)
      cases b1 : decide (sgp = 0) with
      | true =>
        have n1 : (!decide (sgp = 0)) = false := by rw [b1]; rfl
        obtain ⟨t, ht, hinv⟩ := same (by rw [sz0 p (esp.trans (of_decide_eq_true b1)), Rat.zero_mul])
        subst ht
        repeat (first | refine wpg_skipc ?_ | refine wpg_next ?_ | refine wpg_blkout ?_)
        first | refine wpg_seq (wpg_region (id := 5) rfl ?_) | refine wpg_seq (wpg_seq (wpg_region (id := 5) rfl ?_)) | refine wpg_region (id := 5) rfl ?_ | refine wpg_seq (wpg_block rfl (wpg_seq (wpg_region (id := 5) rfl ?_))) | refine wpg_block rfl (wpg_seq (wpg_region (id := 5) rfl ?_))
        refine wpg_v rfl (fun _ => rfl) rfl rfl ?_
        refine wpg_v rfl (fun _ => rfl) rfl rfl ?_
        refine wpg_y rfl (fun _ => rfl) (Int.natCast_nonneg i) gp rfl rfl ?_
        refine wpg_v rfl (fun _ => rfl) rfl rfl ?_
        refine wpg_op rfl ((sp).mono ?_)
        rintro _ rfl
        refine wpg_put rfl rfl ?_
        refine wpg_v rfl (fun _ => rfl) rfl rfl ?_
        refine wpg_v rfl (fun _ => rfl) rfl rfl ?_
        refine wpg_skip rfl rfl rfl n1 rfl rfl ?_
        refine wpg_skip rfl rfl rfl n1 rfl rfl ?_
        refine wpg_skip rfl rfl rfl n1 rfl rfl ?_
        refine wpg_skip rfl rfl rfl n1 rfl rfl ?_
        refine wpg_skip rfl rfl rfl n1 rfl rfl ?_
        refine wpg_skip rfl rfl rfl n1 rfl rfl ?_
        refine wpg_pf rfl rfl rfl n1 rfl rfl rfl ?_
        refine wpg_nil ?_
        repeat (first | refine wpg_next ?_ | refine wpg_blkout ?_)
        refine And.intro (fun h => by cases h) (fun _ => ?_)
        refine ⟨(i + 1, S), hinv, by show ps.length - (i + 1) < ps.length - i; omega, ?_⟩
        refine ent_of rfl rfl ?_ ?_
        · exact ⟨rfl, rfl, ⟨rfl, rfl⟩, ⟨rfl, rfl⟩, rfl, wi.symm, trivial⟩
        · exact ⟨⟨⟨rfl, trivial, rfl, trivial, trivial⟩, fun _ => rfl⟩, ⟨⟨rfl, rfl, rfl, rfl, trivial⟩, fun _ => rfl⟩, trivial⟩
      | false =>
      have n1 : (!decide (sgp = 0)) = true := by rw [b1]; rfl
      cases b2 : decide (sgq = 0) with
      | true =>
        have n2 : (!decide (sgq = 0)) = false := by rw [b2]; rfl
        obtain ⟨t, ht, hinv⟩ := same (by rw [sz0 q (esq.trans (of_decide_eq_true b2)), Rat.mul_zero])
        subst ht
        repeat (first | refine wpg_skipc ?_ | refine wpg_next ?_ | refine wpg_blkout ?_)
        first | refine wpg_seq (wpg_region (id := 5) rfl ?_) | refine wpg_seq (wpg_seq (wpg_region (id := 5) rfl ?_)) | refine wpg_region (id := 5) rfl ?_ | refine wpg_seq (wpg_block rfl (wpg_seq (wpg_region (id := 5) rfl ?_))) | refine wpg_block rfl (wpg_seq (wpg_region (id := 5) rfl ?_))
        refine wpg_v rfl (fun _ => rfl) rfl rfl ?_
        refine wpg_v rfl (fun _ => rfl) rfl rfl ?_
        refine wpg_y rfl (fun _ => rfl) (Int.natCast_nonneg i) gp rfl rfl ?_
        refine wpg_v rfl (fun _ => rfl) rfl rfl ?_
        refine wpg_op rfl ((sp).mono ?_)
        rintro _ rfl
        refine wpg_put rfl rfl ?_
        refine wpg_v rfl (fun _ => rfl) rfl rfl ?_
        refine wpg_v rfl (fun _ => rfl) rfl rfl ?_
        refine wpg_vg rfl rfl rfl n1 (fun _ => rfl) rfl rfl ?_
        refine wpg_vg rfl rfl rfl n1 (fun _ => rfl) rfl rfl ?_
        refine wpg_yg rfl rfl rfl n1 (fun _ => rfl) (Int.natCast_nonneg i) gq rfl rfl ?_
        refine wpg_vg rfl rfl rfl n1 (fun _ => rfl) rfl rfl ?_
        refine wpg_run rfl rfl rfl n1 ((sq).mono ?_)
        rintro _ rfl
        refine wpg_put rfl rfl ?_
        refine wpg_vg rfl rfl rfl n1 (fun _ => rfl) rfl rfl ?_
        refine wpg_pt rfl rfl rfl n1 rfl rfl rfl ?_
        refine wpg_nil ?_
        repeat (first | refine wpg_next ?_ | refine wpg_blkout ?_)
        refine And.intro (fun h => by first | (cases h; done) | exact (nf h n2).elim) (fun _ => ?_)
        refine ⟨(i + 1, S), hinv, by show ps.length - (i + 1) < ps.length - i; omega, ?_⟩
        refine ent_of rfl rfl ?_ ?_
        · exact ⟨rfl, rfl, ⟨rfl, rfl⟩, ⟨rfl, rfl⟩, rfl, wi.symm, trivial⟩
        · exact ⟨⟨⟨rfl, trivial, rfl, trivial, trivial⟩, fun _ => rfl⟩, ⟨⟨rfl, rfl, rfl, rfl, trivial⟩, fun _ => rfl⟩, trivial⟩
      | false =>
        have n2 : (!decide (sgq = 0)) = true := by rw [b2]; rfl
        have szp := fit_sz hfp
        have szq := fit_sz hfq
        have szm := sz_mul szp szq
        have sza := sz_add hS szm
        repeat (first | refine wpg_skipc ?_ | refine wpg_next ?_ | refine wpg_blkout ?_)
        first | refine wpg_seq (wpg_region (id := 5) rfl ?_) | refine wpg_seq (wpg_seq (wpg_region (id := 5) rfl ?_)) | refine wpg_region (id := 5) rfl ?_ | refine wpg_seq (wpg_block rfl (wpg_seq (wpg_region (id := 5) rfl ?_))) | refine wpg_block rfl (wpg_seq (wpg_region (id := 5) rfl ?_))
        refine wpg_v rfl (fun _ => rfl) rfl rfl ?_
        refine wpg_v rfl (fun _ => rfl) rfl rfl ?_
        refine wpg_y rfl (fun _ => rfl) (Int.natCast_nonneg i) gp rfl rfl ?_
        refine wpg_v rfl (fun _ => rfl) rfl rfl ?_
        refine wpg_op rfl ((sp).mono ?_)
        rintro _ rfl
        refine wpg_put rfl rfl ?_
        refine wpg_v rfl (fun _ => rfl) rfl rfl ?_
        refine wpg_v rfl (fun _ => rfl) rfl rfl ?_
        refine wpg_vg rfl rfl rfl n1 (fun _ => rfl) rfl rfl ?_
        refine wpg_vg rfl rfl rfl n1 (fun _ => rfl) rfl rfl ?_
        refine wpg_yg rfl rfl rfl n1 (fun _ => rfl) (Int.natCast_nonneg i) gq rfl rfl ?_
        refine wpg_vg rfl rfl rfl n1 (fun _ => rfl) rfl rfl ?_
        refine wpg_run rfl rfl rfl n1 ((sq).mono ?_)
        rintro _ rfl
        refine wpg_put rfl rfl ?_
        refine wpg_vg rfl rfl rfl n1 (fun _ => rfl) rfl rfl ?_
        refine wpg_pt rfl rfl rfl n1 rfl rfl rfl ?_
        refine wpg_nil ?_
        repeat (first | refine wpg_next ?_ | refine wpg_blkout ?_)
        refine And.intro (fun _ => ?_) (fun h => by first | (cases h; done) | exact (nf n2 h).elim)
        refine And.intro rfl ?_
        refine ⟨encQ p, Int.natCast_nonneg i, gp, ?_⟩
        refine ⟨encQ q, Int.natCast_nonneg i, gq, ?_⟩
        refine (RMul_t p q (by decide : 208 ≤ 100000) szp szq).mono ?_
        rintro _ rfl
        refine (RAdd_t S (p * q) (k := 17000) (by decide) (sz_mono (by omega) hS) (sz_mono (by decide) szm)).mono ?_
        rintro _ rfl
        refine And.intro rfl ?_
        refine ⟨(i + 1, S + p * q), ⟨hlt, sz_mono (by show 417 * i + 1 + (208 + 208) + 1 ≤ 417 * (i + 1) + 1; omega) sza, by rw [← he, Rat.add_assoc]⟩, by show ps.length - (i + 1) < ps.length - i; omega, ?_⟩
        refine ent_of rfl rfl ?_ ?_
        · exact ⟨rfl, rfl, ⟨rfl, rfl⟩, ⟨rfl, rfl⟩, rfl, wi.symm, trivial⟩
        · exact ⟨⟨⟨rfl, trivial, rfl, trivial, trivial⟩, fun _ => rfl⟩, ⟨⟨rfl, rfl, rfl, rfl, trivial⟩, fun _ => rfl⟩, trivial⟩
    · have hi2 : i = ps.length := by have h' : ¬ (i : Int) < ((ps.map encQ).length : Int) := of_decide_eq_false h; omega
      rw [hi2, List.drop_length, dotQ_nil, Rat.add_zero] at he
      rw [← he]
      refine And.intro rfl ?_
      refine And.intro rfl ?_
      exact ⟨rfl, rfl⟩
  · refine ⟨Nat.zero_le _, sz_zero, ?_⟩
    show (0 : Rat) + dotQ (ps.drop 0) (qs.drop 0) = _
    rw [Rat.zero_add]
    rfl
  · refine ent_of rfl rfl ?_ ?_
    · exact ⟨rfl, rfl, ⟨rfl, rfl⟩, ⟨rfl, rfl⟩, rfl, rfl, trivial⟩
    · exact ⟨⟨⟨rfl, trivial, rfl, trivial, trivial⟩, fun _ => rfl⟩, ⟨⟨rfl, rfl, rfl, rfl, trivial⟩, fun _ => rfl⟩, trivial⟩
theorem LDot_s (ps qs : List Rat) (hlen : ps.length = qs.length) (h40 : ps.length ≤ 40) (hp : ∀ p ∈ ps, fitQ p = true) (hq : ∀ q ∈ qs, fitQ q = true) : PureOK Tryz.prog hints 55 [.v (.l qct) (sub (ps.map encQ) 0 ps.length), .v (.l qct) (sub (qs.map encQ) 0 qs.length)] (fun V => V = QR (dotQ ps qs)) := by
  have e : ∀ l : List Rat, sub (l.map encQ) 0 l.length = l.map encQ := fun l => by
    show ((l.map encQ).drop 0).take l.length = _
    rw [List.drop_zero, List.take_of_length_le (by simp)]
  rw [e, e]
  exact LDot_t ps qs hlen h40 hp hq
end Go.Proofs.YtnfgnkbgajhhbaaGreatDoor
