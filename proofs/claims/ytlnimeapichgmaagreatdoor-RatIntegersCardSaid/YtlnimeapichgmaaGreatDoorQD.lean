/-
  rat.Sum, rat.Least.
-/
import Derived.Test.YtlnimeapichgmaaGreatDoorQ7
import Derived.Test.YtlnimeapichgmaaGreatDoorR4
set_option linter.constructorNameAsVariable false
set_option linter.unusedSimpArgs false
set_option linter.unusedVariables false
namespace Go.Proofs.YtlnimeapichgmaaGreatDoor
open Go.Am Go.Tx Dv Go.Lib
set_option maxRecDepth 100000
theorem all_rat : ∀ {l : List (List UInt8)}, (∀ a ∈ l, ratErr a = 0) → ∃ ps : List Rat, l = ps.map ratT ∧ ∀ p ∈ ps, fitQ p = true
  | [], _ => ⟨[], rfl, fun _ h => absurd h List.not_mem_nil⟩
  | a :: l, h => by
    obtain ⟨p, h1, h2⟩ := ratErr_zero (h a List.mem_cons_self)
    obtain ⟨ps, h3, h4⟩ := all_rat (l := l) (fun b hb => h b (List.mem_cons_of_mem _ hb))
    refine ⟨p :: ps, by rw [List.map_cons, ← h1, ← h3], fun q hq => ?_⟩
    rcases List.mem_cons.1 hq with rfl | hq
    · exact h2
    · exact h4 q hq
theorem ratEs_map : ∀ {ps : List Rat}, (∀ p ∈ ps, fitQ p = true) → ratEs (ps.map ratT) = 0
  | [], _ => rfl
  | p :: ps, h => by
    rw [List.map_cons, ratEs, ratErr_ratT (h p List.mem_cons_self)]
    exact ratEs_map fun q hq => h q (List.mem_cons_of_mem _ hq)
/-- What rat.Sum answers. -/
def sumR : List Rat → Rat → List UInt8 × Int
  | [], s => (ratT s, 0)
  | p :: ps, s => match fitQ (s + p) with
    | true => sumR ps (s + p)
    | false => ([], 2)
theorem cmpQ_neg (p q : Rat) : cmpQ p q < 0 ↔ p < q := by
  rw [cmpQ, Int.sign_neg_iff, Rat.lt_iff]
  omega
theorem cmpQ_le (p q : Rat) : cmpQ p q ≤ 0 ↔ p ≤ q := by
  rw [cmpQ, Rat.le_iff]
  constructor
  · intro h
    have : ¬ 0 < (p.num * q.den - q.num * p.den) := fun h' => by rw [Int.sign_eq_one_of_pos h'] at h; omega
    omega
  · intro h
    rcases Int.lt_or_le (p.num * q.den - q.num * p.den) 0 with h' | h'
    · rw [Int.sign_eq_neg_one_of_neg h']; decide
    · have : p.num * q.den - q.num * p.den = 0 := by omega
      rw [this]; decide
theorem Sum_big (l : List (List UInt8)) (hl : 256 < l.length) : PureOK Tryz.prog hints 34 [.v (.l .s) l] (fun V => V = rs ([], 2)) := by
  refine pure_rule (fn := Tryz.f34) (code := bodyOf Tryz.f34) tys_ok (by kernel_rfl) rfl Tryz.func34 (by kernel_rfl) (Nat.le_of_ble_eq_true (by kernel_rfl)) ?_
  refine And.intro (fun _ => rfl) (fun h => ?_)
  have h' : ¬ 256 < (l.length : Int) := of_decide_eq_false h
  omega
theorem Sum_err (l : List (List UInt8)) (hl : l.length ≤ 256) (hs : ∀ a ∈ l, a.length ≤ 9223372036854775806) (hE : ratEs l ≠ 0) : PureOK Tryz.prog hints 34 [.v (.l .s) l] (fun V => V = rs ([], ratEs l)) := by
  refine pure_rule (fn := Tryz.f34) (code := bodyOf Tryz.f34) tys_ok (by kernel_rfl) rfl Tryz.func34 (by kernel_rfl) (Nat.le_of_ble_eq_true (by kernel_rfl)) ?_
  refine And.intro (fun h => ?_) (fun _ => ?_)
  · have h' : 256 < (l.length : Int) := of_decide_eq_true h
    omega
  · refine (CheckAll_t l (by omega) hs).mono ?_
    rintro _ rfl
    have hn : (!decide (ratEs l = 0)) = true := by rw [decide_eq_false hE]; rfl
    exact And.intro (fun _ => rfl) (fun h => (nf hn h).elim)
theorem fits_le {ps : List Rat} (h : ∀ p ∈ ps, fitQ p = true) : ∀ a ∈ ps.map ratT, a.length ≤ 9223372036854775806 := fun a ha => by
  obtain ⟨p, hp, rfl⟩ := List.mem_map.1 ha
  exact fit_le (h p hp)
set_option maxHeartbeats 4000000 in
theorem Sum_ok (ps : List Rat) (hl : ps.length ≤ 256) (hf : ∀ p ∈ ps, fitQ p = true) : PureOK Tryz.prog hints 34 [.v (.l .s) (ps.map ratT)] (fun V => V = rs (sumR ps 0)) := by
  refine pure_rule (fn := Tryz.f34) (code := bodyOf Tryz.f34) tys_ok (by kernel_rfl) rfl Tryz.func34 (by kernel_rfl) (Nat.le_of_ble_eq_true (by kernel_rfl)) ?_
  have hE := ratEs_map hf
  have hs := fits_le hf
  have hll : (ps.map ratT).length = ps.length := List.length_map _
  have hg : ∀ i (h : i < ps.length), (ps.map ratT)[i]? = some (ratT ps[i]) := fun i h => by
    rw [List.getElem?_map, List.getElem?_eq_getElem h]
    rfl
  obtain ⟨l, hl0⟩ : ∃ l, ps.map ratT = l := ⟨_, rfl⟩
  rw [hl0] at hE hs hll hg ⊢
  refine And.intro (fun h => ?_) (fun _ => ?_)
  · have h' : 256 < (l.length : Int) := of_decide_eq_true h
    omega
  · refine (CheckAll_t l (by omega) hs).mono ?_
    rintro _ rfl
    have hn : (!decide (ratEs l = 0)) = false := by rw [hE]; rfl
    refine And.intro (fun h => (nf h hn).elim) (fun _ => ?_)
    refine loop_wp tys_ok rfl (fun (t : Nat × Rat) => [(5, .v .s (ratT t.2)), (18, .v (.l .s) l), (19, .v (.i .i64) (l.length : Int)), (20, .v (.i .i64) (t.1 : Int))]) (fun _ => [])
      (fun t => t.1 ≤ ps.length ∧ fitQ t.2 = true ∧ sumR (ps.drop t.1) t.2 = sumR ps 0) (fun t => ps.length - t.1) ?_ (0, 0) ?_ ?_
    · rintro ⟨i, s⟩ ⟨hi, hfs, he⟩
      simp only at hi hfs he
      refine And.intro (fun h => ?_) (fun h => ?_)
      · have hlt : i < ps.length := by have h' : (i : Int) < (l.length : Int) := of_decide_eq_true h; omega
        have gx : l[(i : Int).toNat]? = some (ratT ps[i]) := by rw [Int.toNat_natCast]; exact hg i hlt
        have hfx := hf ps[i] (List.getElem_mem hlt)
        rw [List.drop_eq_getElem_cons hlt, sumR] at he
        obtain ⟨x, hx⟩ : ∃ x, ps[i] = x := ⟨_, rfl⟩
        rw [hx] at gx hfx he
        have hA := QAdd_ok s x hfs hfx
        have hR : ratR (s + x) = match fitQ (s + x) with | true => (ratT (s + x), 0) | false => ([], 2) := rfl
        refine ⟨ratT x, Int.natCast_nonneg i, gx, ?_⟩
        have wi : IntKind.i64.wrap ((i : Int) + 1) = ((i + 1 : Nat) : Int) := wrap64 (by omega) (by omega)
        cases hfit : fitQ (s + x) with
        | true =>
          rw [hfit] at hR he
          simp only at hR he
          rw [hR] at hA
          refine hA.mono ?_
          rintro _ rfl
          refine And.intro (fun h => nomatch h) (fun _ => ?_)
          refine ⟨(i + 1, s + x), ⟨hlt, hfit, he⟩, by show ps.length - (i + 1) < ps.length - i; omega, ?_⟩
          refine ent_of rfl rfl ?_ ?_
          · exact ⟨rfl, rfl, rfl, wi.symm, trivial⟩
          · exact trivial
        | false =>
          rw [hfit] at hR he
          simp only at hR he
          rw [hR] at hA
          refine hA.mono ?_
          rintro _ rfl
          refine And.intro (fun _ => ?_) (fun h => nomatch h)
          rw [← he]
          rfl
      · have hi2 : i = ps.length := by have h' : ¬ (i : Int) < (l.length : Int) := of_decide_eq_false h; omega
        rw [List.drop_of_length_le (by omega)] at he
        rw [← he]
        rfl
    · exact ⟨Nat.zero_le _, fit_zero, rfl⟩
    · refine ent_of rfl rfl ?_ ?_
      · exact ⟨ratT_zero, rfl, rfl, rfl, trivial⟩
      · exact trivial
theorem Least_big (l : List (List UInt8)) (hl : 256 < l.length) : PureOK Tryz.prog hints 35 [.v (.l .s) l] (fun V => V = .tup [.v (.i .i64) (0 : Int), .v (.i .i64) (2 : Int)]) := by
  refine pure_rule (fn := Tryz.f35) (code := bodyOf Tryz.f35) tys_ok (by kernel_rfl) rfl Tryz.func35 (by kernel_rfl) (Nat.le_of_ble_eq_true (by kernel_rfl)) ?_
  refine And.intro (fun _ => rfl) (fun h => ?_)
  have h' : ¬ 256 < (l.length : Int) := of_decide_eq_false h
  omega
theorem Least_none : PureOK Tryz.prog hints 35 [.v (.l .s) ([] : List (List UInt8))] (fun V => V = .tup [.v (.i .i64) (0 : Int), .v (.i .i64) (8 : Int)]) := by
  refine pure_rule (fn := Tryz.f35) (code := bodyOf Tryz.f35) tys_ok (by kernel_rfl) rfl Tryz.func35 (by kernel_rfl) (Nat.le_of_ble_eq_true (by kernel_rfl)) ?_
  refine And.intro (fun h => nomatch h) (fun _ => ?_)
  exact And.intro (fun _ => rfl) (fun h => nomatch h)
theorem Least_err (l : List (List UInt8)) (h0 : l ≠ []) (hl : l.length ≤ 256) (hs : ∀ a ∈ l, a.length ≤ 9223372036854775806) (hE : ratEs l ≠ 0) : PureOK Tryz.prog hints 35 [.v (.l .s) l] (fun V => V = .tup [.v (.i .i64) (0 : Int), .v (.i .i64) (ratEs l)]) := by
  refine pure_rule (fn := Tryz.f35) (code := bodyOf Tryz.f35) tys_ok (by kernel_rfl) rfl Tryz.func35 (by kernel_rfl) (Nat.le_of_ble_eq_true (by kernel_rfl)) ?_
  have hl0 := List.length_pos_iff.2 h0
  refine And.intro (fun h => ?_) (fun _ => ?_)
  · have h' : 256 < (l.length : Int) := of_decide_eq_true h
    omega
  · refine And.intro (fun h => ?_) (fun _ => ?_)
    · have h' : (l.length : Int) = 0 := of_decide_eq_true h
      omega
    · refine (CheckAll_t l (by omega) hs).mono ?_
      rintro _ rfl
      have hn : (!decide (ratEs l = 0)) = true := by rw [decide_eq_false hE]; rfl
      exact And.intro (fun _ => rfl) (fun h => (nf hn h).elim)
/-- The first one of the least numbers among those from a place on. -/
def LeastIn (ps : List Rat) (i k b : Nat) : Prop := b < ps.length ∧ ∀ x, ps[b]? = some x → (∀ j y, i ≤ j → j < k → ps[j]? = some y → x ≤ y) ∧ (∀ j y, i ≤ j → j < b → ps[j]? = some y → x < y)
set_option maxHeartbeats 4000000 in
theorem Least_ok (ps : List Rat) (h0 : ps ≠ []) (hl : ps.length ≤ 256) (hf : ∀ p ∈ ps, fitQ p = true) : PureOK Tryz.prog hints 35 [.v (.l .s) (ps.map ratT)] (fun V => ∃ b : Nat, V = .tup [.v (.i .i64) (b : Int), .v (.i .i64) (0 : Int)] ∧ LeastIn ps 0 ps.length b) := by
  refine pure_rule (fn := Tryz.f35) (code := bodyOf Tryz.f35) tys_ok (by kernel_rfl) rfl Tryz.func35 (by kernel_rfl) (Nat.le_of_ble_eq_true (by kernel_rfl)) ?_
  have hE := ratEs_map hf
  have hs := fits_le hf
  have hll : (ps.map ratT).length = ps.length := List.length_map _
  have hp0 := List.length_pos_iff.2 h0
  have hg : ∀ i (h : i < ps.length), (ps.map ratT)[i]? = some (ratT ps[i]) := fun i h => by
    rw [List.getElem?_map, List.getElem?_eq_getElem h]
    rfl
  obtain ⟨l, hl0⟩ : ∃ l, ps.map ratT = l := ⟨_, rfl⟩
  rw [hl0] at hE hs hll hg ⊢
  refine And.intro (fun h => ?_) (fun _ => ?_)
  · have h' : 256 < (l.length : Int) := of_decide_eq_true h
    omega
  refine And.intro (fun h => ?_) (fun _ => ?_)
  · have h' : (l.length : Int) = 0 := of_decide_eq_true h
    omega
  refine (CheckAll_t l (by omega) hs).mono ?_
  rintro _ rfl
  have hn : (!decide (ratEs l = 0)) = false := by rw [hE]; rfl
  refine And.intro (fun h => (nf h hn).elim) (fun _ => ?_)
  refine loop_wp tys_ok rfl (fun (t : Nat × Nat) => [(0, .v (.l .s) l), (5, .v (.i .i64) (t.2 : Int)), (23, .v (.i .i64) (l.length : Int)), (24, .v (.i .i64) (t.1 : Int))]) (fun _ => [])
    (fun t => t.1 ≤ ps.length ∧ LeastIn ps 0 t.1 t.2) (fun t => ps.length - t.1) ?_ (0, 0) ?_ ?_
  · rintro ⟨i, b⟩ ⟨hi, hb, hle⟩
    simp only at hi hb hle
    refine And.intro (fun h => ?_) (fun h => ?_)
    · have hlt : i < ps.length := by have h' : (i : Int) < (l.length : Int) := of_decide_eq_true h; omega
      have gx : l[(i : Int).toNat]? = some (ratT ps[i]) := by rw [Int.toNat_natCast]; exact hg i hlt
      have gy : l[(b : Int).toNat]? = some (ratT ps[b]) := by rw [Int.toNat_natCast]; exact hg b hb
      have hfx := hf ps[i] (List.getElem_mem hlt)
      have hfy := hf ps[b] (List.getElem_mem hb)
      have ex := List.getElem?_eq_getElem hlt
      have ey := List.getElem?_eq_getElem hb
      obtain ⟨x, hx⟩ : ∃ x, ps[i] = x := ⟨_, rfl⟩
      obtain ⟨y, hy⟩ : ∃ y, ps[b] = y := ⟨_, rfl⟩
      rw [hx] at gx hfx ex
      rw [hy] at gy hfy ey
      obtain ⟨hle1, hle2⟩ := hle y ey
      refine ⟨ratT x, Int.natCast_nonneg i, gx, ?_⟩
      refine ⟨ratT y, Int.natCast_nonneg b, gy, ?_⟩
      refine (Compare_ok x y hfx hfy).mono ?_
      rintro _ rfl
      have wi : IntKind.i64.wrap ((i : Int) + 1) = ((i + 1 : Nat) : Int) := wrap64 (by omega) (by omega)
      refine And.intro (fun h => ?_) (fun h => ?_)
      · have h' : x < y := (cmpQ_neg x y).1 (of_decide_eq_true h)
        refine ⟨(i + 1, i), ⟨hlt, hlt, fun z hz => ?_⟩, by show ps.length - (i + 1) < ps.length - i; omega, ?_⟩
        · have hzx : z = x := by rw [ex] at hz; exact (Option.some.inj hz).symm
          subst hzx
          refine ⟨fun j w _ hj hw => ?_, fun j w _ hj hw => ?_⟩
          · rcases (show j < i ∨ j = i by simp only at hj; omega) with hj | hj
            · exact Rat.le_trans (Rat.le_of_lt h') (hle1 j w (Nat.zero_le _) hj hw)
            · subst hj
              rw [ex] at hw
              rw [Option.some.inj hw]
              exact Rat.le_refl
          · have := hle1 j w (Nat.zero_le _) hj hw
            rw [← Rat.not_le]
            intro hc
            have h3 : y ≤ z := Rat.le_trans this hc
            rw [← Rat.not_le] at h'
            exact h' h3
        · refine ent_of rfl rfl ?_ ?_
          · exact ⟨rfl, rfl, rfl, wi.symm, trivial⟩
          · exact trivial
      · have h' : ¬ x < y := fun hc => of_decide_eq_false h ((cmpQ_neg x y).2 hc)
        refine ⟨(i + 1, b), ⟨hlt, hb, fun z hz => ?_⟩, by show ps.length - (i + 1) < ps.length - i; omega, ?_⟩
        · have hzy : z = y := by rw [ey] at hz; exact (Option.some.inj hz).symm
          subst hzy
          refine ⟨fun j w _ hj hw => ?_, hle2⟩
          rcases (show j < i ∨ j = i by simp only at hj; omega) with hj | hj
          · exact hle1 j w (Nat.zero_le _) hj hw
          · subst hj
            rw [ex] at hw
            rw [← Option.some.inj hw]
            exact Rat.not_lt.1 h'
        · refine ent_of rfl rfl ?_ ?_
          · exact ⟨rfl, rfl, rfl, wi.symm, trivial⟩
          · exact trivial
    · have hi2 : i = ps.length := by have h' : ¬ (i : Int) < (l.length : Int) := of_decide_eq_false h; omega
      rw [hi2] at hle
      exact ⟨b, rfl, hb, hle⟩
  · exact ⟨Nat.zero_le _, hp0, fun x _ => ⟨fun j _ _ hj => absurd hj (Nat.not_lt_zero _), fun j _ _ hj => absurd hj (Nat.not_lt_zero _)⟩⟩
  · refine ent_of rfl rfl ?_ ?_
    · exact ⟨rfl, rfl, rfl, rfl, trivial⟩
    · exact trivial
end Go.Proofs.YtlnimeapichgmaaGreatDoor
