/-
  Reading of a network that came in.
-/
import Derived.Test.YtcclbkkgpcpikaaJ1
import Derived.Test.YtcclbkkgpcpikaaTop
set_option linter.unusedSimpArgs false
set_option linter.unusedVariables false
namespace Go.Proofs.Ytcclbkkgpcpikaa
open Go.Am
def tyI : Am.Ty := .int .i64
def tySw : Am.Ty := .agg [.str, .str, .str, .bool, .bool]
def tyBr : Am.Ty := .agg [.str, .str, .str, tyI, tyI, tyI, tyI, tyI, tyI]
def tyGn : Am.Ty := .agg [.str, .str, tyI, tyI, tyI]
def tyLd : Am.Ty := .agg [.str, .str, tyI]
def tySo : Am.Ty := .agg [.str, .str, tyI, tyI, tyI]
def tyNet : Am.Ty := .agg [.slice .str 16, .slice tySw 56, .slice tyBr 96, .slice tyGn 56, .slice tyLd 40, .slice tySo 56]
theorem str_get (c : List PV) (h : HasTy .str c) : ∃ s, c = encS s ∧ s.size ≤ reachBytes := by
  simp only [HasTy] at h
  obtain ⟨s, rfl, hs⟩ := h
  exact ⟨s, rfl, hs⟩
theorem sw_get (c : List PV) (h : HasTy tySw c) : ∃ x, c = encSw x ∧ x.name.size ≤ reachBytes := by
  simp only [tySw, HasTy, HasTys] at h
  obtain ⟨_, _, rfl, ⟨a, rfl, ha⟩, _, _, rfl, ⟨b, rfl, _⟩, _, _, rfl, ⟨d, rfl, _⟩, _, _, rfl, ⟨e, rfl⟩, _, _, rfl, ⟨f, rfl⟩, rfl⟩ := h
  exact ⟨⟨a, b, d, e, f⟩, rfl, ha⟩
theorem br_get (c : List PV) (h : HasTy tyBr c) : ∃ x, c = encB x ∧ x.name.size ≤ reachBytes := by
  simp only [tyBr, tyI, HasTy, HasTys] at h
  obtain ⟨_, _, rfl, ⟨a, rfl, ha⟩, _, _, rfl, ⟨b, rfl, _⟩, _, _, rfl, ⟨d, rfl, _⟩, _, _, rfl, ⟨e, rfl, _⟩, _, _, rfl, ⟨f, rfl, _⟩, _, _, rfl, ⟨g, rfl, _⟩, _, _, rfl, ⟨i, rfl, _⟩, _, _, rfl, ⟨j, rfl, _⟩, _, _, rfl, ⟨k, rfl, _⟩, rfl⟩ := h
  exact ⟨⟨a, b, d, e, f, g, i, j, k⟩, rfl, ha⟩
theorem gn_get (c : List PV) (h : HasTy tyGn c) : ∃ x, c = encGn x ∧ x.name.size ≤ reachBytes := by
  simp only [tyGn, tyI, HasTy, HasTys] at h
  obtain ⟨_, _, rfl, ⟨a, rfl, ha⟩, _, _, rfl, ⟨b, rfl, _⟩, _, _, rfl, ⟨e, rfl, _⟩, _, _, rfl, ⟨f, rfl, _⟩, _, _, rfl, ⟨g, rfl, _⟩, rfl⟩ := h
  exact ⟨⟨a, b, e, f, g⟩, rfl, ha⟩
theorem ld_get (c : List PV) (h : HasTy tyLd c) : ∃ x, c = encLd x ∧ x.name.size ≤ reachBytes := by
  simp only [tyLd, tyI, HasTy, HasTys] at h
  obtain ⟨_, _, rfl, ⟨a, rfl, ha⟩, _, _, rfl, ⟨b, rfl, _⟩, _, _, rfl, ⟨e, rfl, _⟩, rfl⟩ := h
  exact ⟨⟨a, b, e⟩, rfl, ha⟩
theorem so_get (c : List PV) (h : HasTy tySo c) : ∃ x, c = encSo x ∧ x.name.size ≤ reachBytes := by
  simp only [tySo, tyI, HasTy, HasTys] at h
  obtain ⟨_, _, rfl, ⟨a, rfl, ha⟩, _, _, rfl, ⟨b, rfl, _⟩, _, _, rfl, ⟨e, rfl, _⟩, _, _, rfl, ⟨f, rfl, _⟩, _, _, rfl, ⟨g, rfl, _⟩, rfl⟩ := h
  exact ⟨⟨a, b, e, f, g⟩, rfl, ha⟩
theorem net_get (p : PV) (h : HasArg tyNet p) : ∃ n q0 q1 q2 q3 q4 q5, p = .agg [q0, q1, q2, q3, q4, q5] ∧ NetQ n q0 q1 q2 q3 q4 q5 := by
  simp only [tyNet, HasArg, HasTys] at h
  obtain ⟨_, rfl, _, _, rfl, h0, _, _, rfl, h1, _, _, rfl, h2, _, _, rfl, h3, _, _, rfl, h4, _, _, rfl, h5, rfl⟩ := h
  obtain ⟨q0, l0, rfl, s0, z0, _⟩ := slice_get str_get h0
  obtain ⟨q1, l1, rfl, s1, z1, _⟩ := slice_get sw_get h1
  obtain ⟨q2, l2, rfl, s2, z2, _⟩ := slice_get br_get h2
  obtain ⟨q3, l3, rfl, s3, z3, _⟩ := slice_get gn_get h3
  obtain ⟨q4, l4, rfl, s4, z4, _⟩ := slice_get ld_get h4
  obtain ⟨q5, l5, rfl, s5, z5, _⟩ := slice_get so_get h5
  exact ⟨⟨l0, l1, l2, l3, l4, l5⟩, q0, q1, q2, q3, q4, q5, rfl, ⟨s0, s1, s2, s3, s4, s5, z0, z1, z2, z3, z4, z5⟩⟩
end Go.Proofs.Ytcclbkkgpcpikaa
