/-
  long; NatProducts.
-/
import Derived.Test.YtlnimeapichgmaaDoorL2
import Derived.Test.YtlnimeapichgmaaDoorR3
set_option linter.constructorNameAsVariable false
set_option linter.unusedSimpArgs false
set_option linter.unusedVariables false
namespace Go.Tx
open Go.Am
section
variable {P : Program} {h : Hints} {T : TypeId → TI} {N : Nat} {ds : List (Option Tmp)} {o : Oper} {l : List Oper} {tm : TM} {hp : List SM} {k : TM → List SM → Prop} {j d dd : Nat} {w t : Bool} {V : SV}
theorem wpg_m {hp' : List SM} (hg : o.guard = none) (he : ∀ k, opT P h T o.op tm hp k = k V hp') (ho : o.dst = some dd) (hN : Nat.ble (dd + 1) N = true) (hk : wpOps P h T N ds l ((dd, V) :: tm) hp' k) : wpOps P h T N ds (o :: l) tm hp k := by
  refine wpg_op hg ?_
  rw [he]
  have hk := wpg_put (c := fun tm' => wpOps P h T N ds l tm' hp' k) (V := V) (tm := tm) ho hN hk
  exact hk
end
end Go.Tx
namespace Go.Proofs.YtlnimeapichgmaaDoor
open Go.Am Go.Tx Dv Go.Lib
set_option maxRecDepth 100000
def hpL (n : Int) : List SM := [.cell [.v (.i .i64) n] true]
theorem clo_t (n : Int) (s : List UInt8) : OpenOK Tryd.prog hints 38 [.v .s s, .ptr 0 0 0] (hpL n) (fun V hp => V = .v .b (decide (n < (s.length : Int))) ∧ hp = hpL n) := by
  refine open_rule (fn := Tryd.f38) (code := bodyOf Tryd.f38) tys_ok (by kernel_rfl) Tryd.func38 (by kernel_rfl) (Nat.le_of_ble_eq_true (by kernel_rfl)) ?_
  intro base
  refine And.intro rfl ?_
  exact ⟨rfl, rfl⟩
def longB (n : Int) : List (List UInt8) → Bool
  | [] => false
  | s :: r => match decide (n < (s.length : Int)) with
    | true => true
    | false => longB n r
set_option maxHeartbeats 4000000 in
theorem index_t (n : Int) (l : List (List UInt8)) (hl : l.length ≤ 1000) : OpenOK Tryd.prog hints 54 [.v (.l .s) l, .func 38 [] [.ptr 0 0 0]] (hpL n) (fun V hp => (∃ k : Int, V = .v (.i .i64) k ∧ (longB n l = true → 0 ≤ k) ∧ (longB n l = false → k < 0)) ∧ hp = hpL n) := by
  refine open_rule (fn := Tryd.f54) (code := bodyOf Tryd.f54) tys_ok (by kernel_rfl) Tryd.func54 (by kernel_rfl) (Nat.le_of_ble_eq_true (by kernel_rfl)) ?_
  intro base
  refine loop_wp tys_ok rfl (fun (i : Nat) => [(0, .v (.l .s) l), (1, .func 38 [] [.ptr 0 0 0]), (7, .v (.i .i64) (l.length : Int)), (8, .v (.i .i64) (i : Int))]) (fun _ => hpL n)
    (fun i => i ≤ l.length ∧ longB n (l.drop i) = longB n l) (fun i => l.length - i) ?_ 0 ?_ ?_
  · rintro i ⟨hi, he⟩
    refine And.intro (fun h => ?_) (fun h => ?_)
    · have hlt : i < l.length := by have h' : (i : Int) < (l.length : Int) := of_decide_eq_true h; omega
      obtain ⟨s, hs⟩ : ∃ s, l[i] = s := ⟨_, rfl⟩
      have gs : l[(i : Int).toNat]? = some s := by rw [Int.toNat_natCast, List.getElem?_eq_getElem hlt, hs]
      rw [List.drop_eq_getElem_cons hlt, hs, longB] at he
      refine ⟨s, Int.natCast_nonneg i, gs, ?_⟩
      refine (clo_t n s).mono ?_
      rintro _ _ ⟨rfl, rfl⟩
      refine And.intro (fun h2 => ?_) (fun h2 => ?_)
      · have h2' : decide (n < (s.length : Int)) = true := h2
        rw [h2'] at he
        refine ⟨⟨(i : Int), rfl, fun _ => Int.natCast_nonneg i, fun h3 => ?_⟩, rfl⟩
        rw [← he] at h3
        cases h3
      · have h2' : decide (n < (s.length : Int)) = false := h2
        rw [h2'] at he
        have wi : IntKind.i64.wrap ((i : Int) + 1) = ((i + 1 : Nat) : Int) := wrap64 (by omega) (by omega)
        refine ⟨i + 1, ⟨hlt, he⟩, by show l.length - (i + 1) < l.length - i; omega, ?_⟩
        refine ent_of rfl rfl ?_ ?_
        · exact ⟨rfl, ⟨rfl, trivial, ⟨rfl, rfl⟩, trivial⟩, rfl, wi.symm, trivial⟩
        · exact ⟨⟨⟨rfl, trivial⟩, fun _ => rfl⟩, trivial⟩
    · have hi2 : i = l.length := by have h' : ¬ (i : Int) < (l.length : Int) := of_decide_eq_false h; omega
      rw [List.drop_of_length_le (by omega)] at he
      refine ⟨⟨-1, rfl, fun h3 => ?_, fun _ => by decide⟩, rfl⟩
      rw [← he] at h3
      cases h3
  · exact ⟨Nat.zero_le _, rfl⟩
  · refine ent_of rfl rfl ?_ ?_
    · exact ⟨rfl, ⟨rfl, trivial, ⟨rfl, rfl⟩, trivial⟩, rfl, rfl, trivial⟩
    · exact ⟨⟨⟨rfl, trivial⟩, fun _ => rfl⟩, trivial⟩
theorem contains_t (n : Int) (l : List (List UInt8)) (hl : l.length ≤ 1000) : OpenOK Tryd.prog hints 37 [.v (.l .s) l, .func 38 [] [.ptr 0 0 0]] (hpL n) (fun V hp => V = .v .b (longB n l) ∧ hp = hpL n) := by
  refine open_rule (fn := Tryd.f37) (code := bodyOf Tryd.f37) tys_ok (by kernel_rfl) Tryd.func37 (by kernel_rfl) (Nat.le_of_ble_eq_true (by kernel_rfl)) ?_
  intro base
  refine (index_t n l hl).mono ?_
  rintro _ _ ⟨⟨k, rfl, h1, h2⟩, rfl⟩
  refine ⟨congrArg (SV.v .b) ?_, rfl⟩
  cases hb : longB n l with
  | true => exact decide_eq_true (h1 hb)
  | false => exact decide_eq_false (by have := h2 hb; omega)
theorem long_t (n : Int) (l : List (List UInt8)) (hl : l.length ≤ 1000) : PureOK Tryd.prog hints 19 [.v (.i .i64) n, .v (.l .s) l] (fun V => V = .v .b (longB n l)) := by
  refine pure_rule (fn := Tryd.f19) (code := bodyOf Tryd.f19) tys_ok (by kernel_rfl) rfl Tryd.func19 (by kernel_rfl) (Nat.le_of_ble_eq_true (by kernel_rfl)) ?_
  refine (contains_t n l hl).mono ?_
  rintro _ _ ⟨rfl, rfl⟩
  rfl
theorem long2_t (n : Int) (a b : List UInt8) : PureOK Tryd.prog hints 19 [.v (.i .i64) n, .v (.l .s) (sub [a, b] 0 2)] (fun V => V = .v .b (longB n [a, b])) := long_t n [a, b] (show 2 ≤ 1000 by decide)
set_option maxHeartbeats 4000000 in
theorem NatProducts_l (a b : List UInt8) (hla : a.length ≤ 9223372036854775806) (hlb : b.length ≤ 9223372036854775806) : PureOK Tryd.prog hints 5 [.v .s a, .v .s b] (fun V => V = .v .b true) := by
  refine pure_rule (fn := Tryd.f5) (code := bodyOf Tryd.f5) tys_ok (by kernel_rfl) rfl Tryd.func5 (by kernel_rfl) (Nat.le_of_ble_eq_true (by kernel_rfl)) ?_
  have hA := natMul_t a b hla hlb
  have hF := first2_t a b
  have hLo := long2_t 300 a b
  refine natFact_t.mono ?_
  rintro _ rfl
  refine And.intro (fun h => nomatch h) (fun _ => ?_)
  by_cases hE : twoE a b = 0
  · rw [natR_zero hE] at hA
    rw [hE] at hF
    obtain ⟨ea, eb⟩ := twoE_zero hE
    obtain ⟨ca, la⟩ := natErr_zero ea
    obtain ⟨cb, lb⟩ := natErr_zero eb
    have hN := NatMul_t a b ca.2.1 cb.2.1 (by omega) (by omega)
    have hL := natural_t (decDigits (dec a * dec b))
    rw [natL_digits] at hL
    obtain ⟨⟨r1, e1⟩, h1⟩ : ∃ x, natT (dec a * dec b) = x := ⟨_, rfl⟩
    rw [h1] at hA hL
    have he1 : decide (e1 = e1) = true := decide_eq_true rfl
    have hr1 : (r1 == r1) = true := by simp
    refine hA.mono ?_
    rintro _ rfl
    refine (NatError_t a hla).mono ?_
    rintro _ rfl
    refine (NatError_t b hlb).mono ?_
    rintro _ rfl
    refine And.intro (show 0 + 2 ≤ 2 by decide) ?_
    refine hF.mono ?_
    rintro _ rfl
    refine And.intro (fun h => nomatch h) (fun _ => ?_)
    first | refine wpg_seq (wpg_region rfl ?_) | refine wpg_seq (wpg_seq (wpg_region rfl ?_))
    iterate 2 refine wpg_v rfl (fun _ => rfl) rfl rfl ?_
    refine wpg_m rfl (fun _ => rfl) rfl rfl ?_
    refine wpg_op rfl (And.intro (show 0 + 2 ≤ 2 by decide) (hLo.mono ?_))
    rintro _ rfl
    refine wpg_put rfl rfl ?_
    refine wpg_v rfl (fun _ => rfl) rfl rfl ?_
    cases longB 300 [a, b] with
    | false =>
      iterate 4 refine wpg_skip rfl rfl rfl rfl rfl rfl ?_
      iterate 3 refine wpg_skipT rfl rfl rfl rfl rfl ?_
      iterate 2 refine wpg_skip rfl rfl rfl rfl rfl rfl ?_
      refine wpg_pf rfl rfl rfl rfl rfl rfl rfl ?_
      refine wpg_nil ?_
      refine And.intro (fun h => nomatch h) (fun _ => ?_)
      refine hN.mono ?_
      rintro _ rfl
      refine hL.mono ?_
      rintro _ rfl
      refine wpg_seq (wpg_region rfl ?_)
      iterate 4 refine wpg_v rfl (fun _ => rfl) rfl rfl ?_
      iterate 3 refine wpg_vg rfl rfl rfl he1 (fun _ => rfl) rfl rfl ?_
      refine wpg_pt rfl rfl rfl he1 rfl rfl rfl ?_
      refine wpg_v rfl (fun _ => rfl) rfl rfl ?_
      refine wpg_nil ?_
      show SV.v .b (r1 == r1) = _
      rw [hr1]
    | true =>
      iterate 3 refine wpg_vg rfl rfl rfl rfl (fun _ => rfl) rfl rfl ?_
      refine wpg_vg rfl rfl rfl rfl (fun _ => rfl) rfl rfl ?_
      cases h5 : decide ((a.length : Int) < 5) with
      | true =>
        iterate 3 refine wpg_skip rfl rfl rfl rfl rfl rfl ?_
        refine wpg_ptg rfl rfl rfl rfl rfl rfl rfl rfl rfl rfl ?_
        refine wpg_vg rfl rfl rfl rfl (fun _ => rfl) rfl rfl ?_
        refine wpg_pt rfl rfl rfl rfl rfl rfl rfl ?_
        refine wpg_nil ?_
        refine And.intro (fun h => nomatch h) (fun _ => ?_)
        refine hN.mono ?_
        rintro _ rfl
        refine hL.mono ?_
        rintro _ rfl
        refine wpg_seq (wpg_region rfl ?_)
        iterate 4 refine wpg_v rfl (fun _ => rfl) rfl rfl ?_
        iterate 3 refine wpg_vg rfl rfl rfl he1 (fun _ => rfl) rfl rfl ?_
        refine wpg_pt rfl rfl rfl he1 rfl rfl rfl ?_
        refine wpg_v rfl (fun _ => rfl) rfl rfl ?_
        refine wpg_nil ?_
        show SV.v .b (r1 == r1) = _
        rw [hr1]
      | false =>
        iterate 3 refine wpg_vg rfl rfl rfl rfl (fun _ => rfl) rfl rfl ?_
        refine wpg_pfg rfl rfl rfl rfl rfl rfl rfl rfl rfl rfl ?_
        refine wpg_vg rfl rfl rfl rfl (fun _ => rfl) rfl rfl ?_
        refine wpg_pt rfl rfl rfl rfl rfl rfl rfl ?_
        refine wpg_nil ?_
        refine And.intro (fun _ => rfl) (fun _ => ?_)
        refine hN.mono ?_
        rintro _ rfl
        refine hL.mono ?_
        rintro _ rfl
        refine wpg_seq (wpg_region rfl ?_)
        iterate 4 refine wpg_v rfl (fun _ => rfl) rfl rfl ?_
        iterate 3 refine wpg_vg rfl rfl rfl he1 (fun _ => rfl) rfl rfl ?_
        refine wpg_pt rfl rfl rfl he1 rfl rfl rfl ?_
        refine wpg_v rfl (fun _ => rfl) rfl rfl ?_
        refine wpg_nil ?_
        show SV.v .b (r1 == r1) = _
        rw [hr1]
  · rw [natR_err hE] at hA
    refine hA.mono ?_
    rintro _ rfl
    refine (NatError_t a hla).mono ?_
    rintro _ rfl
    refine (NatError_t b hlb).mono ?_
    rintro _ rfl
    refine And.intro (show 0 + 2 ≤ 2 by decide) ?_
    refine hF.mono ?_
    rintro _ rfl
    generalize twoE a b = E at *
    have h0 : decide (E = 0) = false := decide_eq_false hE
    have hn : (!decide (E = 0)) = true := by rw [h0]; rfl
    refine And.intro (fun _ => ?_) (fun h => (nf hn h).elim)
    have hd : decide (E = E) = true := decide_eq_true rfl
    refine wpg_seq (wpg_region rfl ?_)
    iterate 4 refine wpg_v rfl (fun _ => rfl) rfl rfl ?_
    iterate 2 refine wpg_vg rfl rfl rfl hd (fun _ => rfl) rfl rfl ?_
    refine wpg_pt rfl rfl rfl hd rfl rfl rfl ?_
    refine wpg_v rfl (fun _ => rfl) rfl rfl ?_
    refine wpg_nil ?_
    rfl
end Go.Proofs.YtlnimeapichgmaaDoor
