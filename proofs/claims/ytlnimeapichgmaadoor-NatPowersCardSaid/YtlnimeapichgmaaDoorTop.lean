/-
  What all laws of the seat share: from a walk's result to the given statement.
-/
import Derived.Test.YtlnimeapichgmaaDoorP5
import Derived.Test.YtlnimeapichgmaaDoorTxB
import Derived.Test.YtlnimeapichgmaaDoorAmC
import Derived.Lay
import Derived.LaidSub
import Derived.SizedLaws
set_option linter.constructorNameAsVariable false
set_option linter.unusedSimpArgs false
set_option linter.unusedVariables false
namespace Go.Proofs.YtlnimeapichgmaaDoor
open Go.Am Go.Tx
set_option maxRecDepth 100000
theorem own0 : ownKnob Tryd.prog.godebug = none := by kernel_rfl
theorem laidOut0 : laidOutB Tryd.prog = true := by kernel_rfl
/-- What the rows list. -/
abbrev rowsLaid : List (String × DataW Unit) := Rows.natChecksRow.laid
theorem pow_tab {W : World} (h : laidMetH Tryd.prog rowsLaid W) : Lib.TabIs Tryd.prog W powName .u64 Lib.pow10Tab := by
  have h1 := laidMetH.filter (fun x => x.1 == powName) h
  rw [MakeChecks.laidMetH_plain _ _ _ (by kernel_rfl)] at h1
  exact Lib.tabIs_of_head (rest := []) (g := 0) (t := 114) (e := 75) (n := 20) (by kernel_rfl) (by kernel_rfl) (by kernel_rfl) (by kernel_rfl) (by kernel_rfl) (by kernel_rfl) h1
theorem pow_ok {W : World} (h : laidMetH Tryd.prog rowsLaid W) : natLaid.ok (fun b => b < W.heap.size) W := by
  have ht := pow_tab h
  refine ⟨0, by kernel_rfl, ?_, ht⟩
  unfold Lib.TabIs World.var? at ht
  have hg : Tryd.prog.globalNamed powName = some 0 := by kernel_rfl
  rw [hg, Option.bind_some] at ht
  cases hb : W.heap[0]? with
  | none => rw [hb] at ht; simp at ht
  | some o => exact (Array.getElem?_eq_some_iff.1 hb).1
theorem exp_bool {n : Nat} {H : List Mem} {v : PV} {b : Bool} (h : exp n H v = some (.bool b)) : v = .bool b := by
  cases n with
  | zero => simp [exp] at h
  | succ n => cases v <;> simp only [exp] at h <;> first | (exact Option.some.inj h) | (cases h; done) | (rename_i a b c d; cases hx : H[a]? with
      | none => rw [hx] at h; cases h
      | some m => cases m <;> rw [hx] at h <;> simp only at h <;> first | (cases h; done) | (split at h <;> simp at h)) | (rename_i a b c; cases hx : H[a]? with
      | none => rw [hx] at h; cases h
      | some m => cases m <;> rw [hx] at h <;> simp only at h <;> first | (cases h; done) | (simp [Option.bind_eq_some_iff] at h)) | (simp [Option.bind_eq_some_iff] at h)
theorem law_true {f : FuncId} {Vs : List SV} {qs : List PV} (hp : hints.prim f = none) (h : PureOK Tryd.prog hints f Vs (fun V => V = .v .b true)) (hr : RL [] Vs qs) : ∃ n H', (evalF Tryd.prog hints n).rn f qs [] = some (.bool true, H') := by
  obtain ⟨q, V, h1, h2, rfl⟩ := h.out qs hr
  simp only [RV, RR] at h2
  have hq : q = .bool true := by simpa using h2
  subst hq
  unfold pureCall at h1
  rw [hp] at h1
  obtain ⟨⟨v, H'⟩, h3, h4⟩ := Option.bind_eq_some_iff.1 h1
  have hv := exp_bool h4
  simp only at hv
  subst hv
  obtain ⟨k, hk⟩ := lim_evalF h3
  exact ⟨k, H', hk⟩
theorem arg_str {p : PV} (hs : HasArg .str p) : ∃ s, RV [] (.v .s s) p ∧ s.length ≤ 9223372036854775806 := by
  have h : HasTy .str [p] := hs
  simp only [HasTy] at h
  obtain ⟨n, h1, h2⟩ := h
  have h1 : p = .str n := by simpa using h1
  subst h1
  refine ⟨n.data.toList, by simp only [RV, RR], ?_⟩
  have h3 : n.data.toList.length = n.size := Array.length_toList
  have h4 : reachBytes = 140737488351232 := rfl
  omega
theorem arg_int {k : IntKind} {p : PV} (hs : HasArg (.int k) p) : ∃ n, RV [] (.v (.i k) n) p ∧ (Lit.int k n).wf = true := by
  have h : HasTy (.int k) [p] := hs
  simp only [HasTy] at h
  obtain ⟨n, h1, h2⟩ := h
  have h1 : p = .int k n := by simpa using h1
  subst h1
  exact ⟨n, by simp only [RV, RR], h2⟩
end Go.Proofs.YtlnimeapichgmaaDoor
