import Derived.Test.YtcclbkkgpcpikaaGD
import Derived.ProofKit
import Derived.SizedLaws
set_option linter.unusedSimpArgs false
set_option linter.unusedVariables false
namespace Go.Proofs.Ytcclbkkgpcpikaa
open Go.Am
set_option maxRecDepth 100000
theorem list_get {α : Type} {e : Am.Ty} {enc : α → List PV} {R : α → Prop} (h : ∀ c, HasTy e c → ∃ a, c = enc a ∧ R a) : ∀ es : List (List PV), (∀ c ∈ es, HasTy e c) → ∃ l : List α, es = l.map enc ∧ ∀ a ∈ l, R a
  | [], _ => ⟨[], rfl, by simp⟩
  | c :: es, hc => by
    obtain ⟨a, rfl, ha⟩ := h c (hc c List.mem_cons_self)
    obtain ⟨l, rfl, hl⟩ := list_get h es fun x hx => hc x (List.mem_cons_of_mem _ hx)
    exact ⟨a :: l, rfl, fun x hx => (List.mem_cons.1 hx).elim (fun e => e ▸ ha) (hl x)⟩
theorem slice_get {α : Type} {e : Am.Ty} {by_ : Nat} {enc : α → List PV} {R : α → Prop} (h : ∀ c, HasTy e c → ∃ a, c = enc a ∧ R a) {cs : List PV} (hs : HasTy (.slice e by_) cs) : ∃ q, ∃ l : List α, cs = [q] ∧ Sl q (l.map enc) ∧ ∀ a ∈ l, R a := by
  simp only [HasTy] at hs
  rcases hs with rfl | ⟨es, rfl, _, _, hc⟩
  · exact ⟨.nils, [], rfl, .inl ⟨rfl, rfl⟩, by simp⟩
  · obtain ⟨l, rfl, hl⟩ := list_get h es hc
    exact ⟨.lst (l.map enc), l, rfl, .inr rfl, hl⟩
def tyI : Am.Ty := .int .i64
def tySw : Am.Ty := .agg [.str, .str, .str, .bool, .bool]
def tyBr : Am.Ty := .agg [.str, .str, .str, tyI, tyI, tyI, tyI, tyI, tyI]
def tyGn : Am.Ty := .agg [.str, .str, tyI, tyI, tyI]
def tyLd : Am.Ty := .agg [.str, .str, tyI]
def tySo : Am.Ty := .agg [.str, .str, tyI, tyI, tyI]
def tyNet : Am.Ty := .agg [.slice .str 16, .slice tySw 56, .slice tyBr 96, .slice tyGn 56, .slice tyLd 40, .slice tySo 56]
theorem tys_law : omap (tyOf Try.prog 20) Try.f5.params.toList = some [tyNet, .str, tyBr] := by kernel_rfl
theorem str_get (c : List PV) (h : HasTy .str c) : ∃ s, c = encS s ∧ s.size ≤ reachBytes := by
  simp only [HasTy] at h
  obtain ⟨s, rfl, hs⟩ := h
  exact ⟨s, rfl, hs⟩
theorem sw_get (c : List PV) (h : HasTy tySw c) : ∃ x, c = encSw x ∧ x.name.size ≤ reachBytes := by
  simp only [tySw, HasTy, HasTys] at h
  obtain ⟨_, _, rfl, ⟨a, rfl, ha⟩, _, _, rfl, ⟨b, rfl, _⟩, _, _, rfl, ⟨d, rfl, _⟩, _, _, rfl, ⟨e, rfl⟩, _, _, rfl, ⟨f, rfl⟩, rfl⟩ := h
  exact ⟨⟨a, b, d, e, f⟩, rfl, ha⟩
theorem br_get (c : List PV) (h : HasTy tyBr c) : ∃ x, c = encB x ∧ x.name.size ≤ reachBytes := by
  simp only [tyBr, tyI, HasTy, HasTys] at h
  obtain ⟨_, _, rfl, ⟨a, rfl, ha⟩, _, _, rfl, ⟨b, rfl, _⟩, _, _, rfl, ⟨d, rfl, _⟩, _, _, rfl, ⟨e, rfl, _⟩, _, _, rfl, ⟨f, rfl, _⟩, _, _, rfl, ⟨g, rfl, _⟩, _, _, rfl, ⟨i, rfl, _⟩, _, _, rfl, ⟨j, rfl, _⟩, _, _, rfl, ⟨k, rfl, _⟩, rfl⟩ := h
  exact ⟨⟨a, b, d, e, f, g, i, j, k⟩, rfl, ha⟩
theorem gn_get (c : List PV) (h : HasTy tyGn c) : ∃ x, c = encGn x ∧ x.name.size ≤ reachBytes := by
  simp only [tyGn, tyI, HasTy, HasTys] at h
  obtain ⟨_, _, rfl, ⟨a, rfl, ha⟩, _, _, rfl, ⟨b, rfl, _⟩, _, _, rfl, ⟨e, rfl, _⟩, _, _, rfl, ⟨f, rfl, _⟩, _, _, rfl, ⟨g, rfl, _⟩, rfl⟩ := h
  exact ⟨⟨a, b, e, f, g⟩, rfl, ha⟩
theorem ld_get (c : List PV) (h : HasTy tyLd c) : ∃ x, c = encLd x ∧ x.name.size ≤ reachBytes := by
  simp only [tyLd, tyI, HasTy, HasTys] at h
  obtain ⟨_, _, rfl, ⟨a, rfl, ha⟩, _, _, rfl, ⟨b, rfl, _⟩, _, _, rfl, ⟨e, rfl, _⟩, rfl⟩ := h
  exact ⟨⟨a, b, e⟩, rfl, ha⟩
theorem so_get (c : List PV) (h : HasTy tySo c) : ∃ x, c = encSo x ∧ x.name.size ≤ reachBytes := by
  simp only [tySo, tyI, HasTy, HasTys] at h
  obtain ⟨_, _, rfl, ⟨a, rfl, ha⟩, _, _, rfl, ⟨b, rfl, _⟩, _, _, rfl, ⟨e, rfl, _⟩, _, _, rfl, ⟨f, rfl, _⟩, _, _, rfl, ⟨g, rfl, _⟩, rfl⟩ := h
  exact ⟨⟨a, b, e, f, g⟩, rfl, ha⟩
theorem net_get (p : PV) (h : HasArg tyNet p) : ∃ n q0 q1 q2 q3 q4 q5, p = .agg [q0, q1, q2, q3, q4, q5] ∧ NetQ n q0 q1 q2 q3 q4 q5 := by
  simp only [tyNet, HasArg, HasTys] at h
  obtain ⟨_, rfl, _, _, rfl, h0, _, _, rfl, h1, _, _, rfl, h2, _, _, rfl, h3, _, _, rfl, h4, _, _, rfl, h5, rfl⟩ := h
  obtain ⟨q0, l0, rfl, s0, z0⟩ := slice_get str_get h0
  obtain ⟨q1, l1, rfl, s1, z1⟩ := slice_get sw_get h1
  obtain ⟨q2, l2, rfl, s2, z2⟩ := slice_get br_get h2
  obtain ⟨q3, l3, rfl, s3, z3⟩ := slice_get gn_get h3
  obtain ⟨q4, l4, rfl, s4, z4⟩ := slice_get ld_get h4
  obtain ⟨q5, l5, rfl, s5, z5⟩ := slice_get so_get h5
  exact ⟨⟨l0, l1, l2, l3, l4, l5⟩, q0, q1, q2, q3, q4, q5, rfl, ⟨s0, s1, s2, s3, s4, s5, z0, z1, z2, z3, z4, z5⟩⟩
theorem law_eval (qs : List PV) (h : HasArgs [tyNet, .str, tyBr] qs) : ∃ n H', (evalF Try.prog hints n).rn 5 qs [] = some (.bool true, H') := by
  simp only [HasArgs] at h
  obtain ⟨p, _, rfl, h1, s, _, rfl, h2, b, _, rfl, h3, rfl⟩ := h
  obtain ⟨n, q0, q1, q2, q3, q4, q5, rfl, hq⟩ := net_get p h1
  obtain ⟨s, hs, hsz⟩ : ∃ t, s = .str t ∧ t.size ≤ reachBytes := by
    simp only [HasArg, HasTy] at h2
    obtain ⟨t, ht, hz⟩ := h2
    exact ⟨t, by simpa using ht, hz⟩
  subst hs
  obtain ⟨x, rfl⟩ : ∃ x, b = .agg (encB x) := by
    have : ∃ cs, b = .agg cs ∧ HasTy tyBr cs := by
      simp only [tyBr, HasArg] at h3
      obtain ⟨cs, rfl, hc⟩ := h3
      exact ⟨cs, rfl, by simp only [tyBr, HasTy]; exact hc⟩
    obtain ⟨cs, rfl, hc⟩ := this
    obtain ⟨x, rfl, _⟩ := br_get cs hc
    exact ⟨x, rfl⟩
  obtain ⟨⟨v, H'⟩, hr, hv⟩ := law_run n q0 q1 q2 q3 q4 q5 hq s hsz x
  simp only at hv
  subst hv
  obtain ⟨k, hk⟩ := lim_evalF hr
  exact ⟨k, H', hk⟩

open Go.ChangeShapes Go.WideShapes Go.ChangeAt Go.RowKit
theorem own0 : ownKnob Try.prog.godebug = none := by kernel_rfl
theorem laidOut0 : laidOutB Try.prog = true := by kernel_rfl
theorem law_lifted (os : Os) (started : os.Started) (H : Type) (enc : TypeId × Value → H) :
    ReturnsInHanded {} Try.checked os 5 .any (Rows.netmodelChecksSpec.pre6 enc Try.prog Try.f5 Rows.netmodelChecksRow.domain false) (Rows.netmodelChecksSpec.post enc Try.prog Try.f5 false true false false) := by
  refine returnsInHanded_of_change_sized (C := Try.checked) own0 started (by kernel_rfl) Try.func5
    (ChangeSpec.witness6 (enc := enc) (C := Try.checked) false ⟨#[], #[.agg #[.slice none 0 0, .slice none 0 0, .slice none 0 0, .slice none 0 0, .slice none 0 0, .slice none 0 0], .string ByteArray.empty,
      .agg #[.string ByteArray.empty, .string ByteArray.empty, .string ByteArray.empty, .int .i64 0, .int .i64 0, .int .i64 0, .int .i64 0, .int .i64 0, .int .i64 0]], []⟩ 8 (by kernel_rfl) (by kernel_rfl) (by kernel_rfl) (by kernel_rfl)) ?_
  intro W base args ds gs before hval hW _ hsz _
  exact law_contract (fn := Try.f5) (s := Rows.netmodelChecksSpec) (tb := 4) static prims laidOut0 rfl (by kernel_rfl) Try.underlying4 (of_decide_eq_true (by kernel_rfl)) tys_law law_eval (by
    intro ds hds
    have h3 : Try.f5.params.size = 3 := by kernel_rfl
    rw [h3] at hds
    match ds, hds with
    | [_, _, _], _ => rfl) hval hW hsz
theorem netmodelChecks_holds : Rows.NetmodelChecksSaid :=
  OpenClaim.holds_of_wide 5 Try.f5 rfl rfl rfl rfl rfl rfl rfl ⟨rfl, rfl, rfl, rfl, rfl⟩ rfl rfl rfl rfl rfl (by kernel_rfl) Try.func5 (by kernel_rfl)
    (of_decide_eq_true (by kernel_rfl)) (by unfold Func.isWrapper; first | (rw [if_pos (by decide +kernel)]; kernel_rfl) | (rw [if_neg (by decide +kernel)]; exact ⟨rfl, rfl⟩))
    (fun os started H enc _ => law_lifted os started H enc)
end Go.Proofs.Ytcclbkkgpcpikaa
