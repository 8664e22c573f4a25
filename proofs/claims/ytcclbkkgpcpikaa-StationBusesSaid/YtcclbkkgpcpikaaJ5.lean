import Derived.Test.YtcclbkkgpcpikaaJ4
set_option linter.unusedSimpArgs false
set_option linter.unusedVariables false
namespace Go.Proofs.Ytcclbkkgpcpikaa
open Go.Am
set_option maxRecDepth 100000
theorem encI_N (l : List Nat) : (l.map Int.ofNat).map encI = l.map encN := by rw [List.map_map]; rfl
theorem sbuses_N (n : Net) (q0 q1 q2 q3 q4 q5 : PV) (hq : NetQ n q0 q1 q2 q3 q4 q5) (hv : VNet n) : pureCall hints L1 83 [.agg [q0, q1, q2, q3, q4, q5]] = some (.lst ((busF n).map encN)) := by
  rw [sbuses_call n q0 q1 q2 q3 q4 q5 hq hv, bus_eq hv, encI_N]
/-! Of -/
end Go.Proofs.Ytcclbkkgpcpikaa

set_option linter.unusedSimpArgs false
set_option linter.unusedVariables false
namespace Go.Proofs.Ytcclbkkgpcpikaa
open Go.Am
set_option maxRecDepth 100000
theorem getD_get {l : List Nat} {i : Nat} (h : i < l.length) : l.getD i 0 = l[i] := by
  rw [List.getD_eq_getElem?_getD, List.getElem?_eq_getElem h]; rfl
end Go.Proofs.Ytcclbkkgpcpikaa
