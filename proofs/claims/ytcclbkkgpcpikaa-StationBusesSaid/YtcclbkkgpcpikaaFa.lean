/-
  The facts without arguments, each by one run.
-/
import Derived.Test.YtcclbkkgpcpikaaHints
set_option linter.unusedSimpArgs false
set_option linter.unusedVariables false
namespace Go.Proofs.Ytcclbkkgpcpikaa
noncomputable def facts : List Go.FuncId := [9, 21, 28, 37]
set_option maxRecDepth 100000 in
theorem graphFact_true : Am.saysTrue ((Am.evalF Try.prog hintsF 200).rn 9 [] []) = true := by decide +kernel
set_option maxRecDepth 100000 in
theorem netmodelFact_true : Am.saysTrue ((Am.evalF Try.prog hintsF 200).rn 21 [] []) = true := by decide +kernel
set_option maxRecDepth 100000 in
theorem topologyFact_true : Am.saysTrue ((Am.evalF Try.prog hintsF 200).rn 28 [] []) = true := by decide +kernel
set_option maxRecDepth 100000 in
theorem stationFact_true : Am.saysTrue ((Am.evalF Try.prog hintsF 200).rn 37 [] []) = true := by decide +kernel
theorem facts_true : ∀ f ∈ facts, Am.saysTrue ((Am.evalF Try.prog hintsF 200).rn f [] []) = true := by
  intro f hf
  simp only [facts, List.mem_cons, List.not_mem_nil, or_false] at hf
  rcases hf with rfl | rfl | rfl | rfl
  · exact graphFact_true
  · exact netmodelFact_true
  · exact topologyFact_true
  · exact stationFact_true
noncomputable def hints : Am.Hints := Am.withFacts hintsB facts
theorem prims : Am.PrimSound Try.prog hints := fun f g hf => Am.facts_prims staticF primsF (fun f hf => ⟨200, facts_true f hf⟩) f g hf
theorem static : Am.Static Try.prog hints :=
  ⟨staticB.mixed, fun f hf => by rw [hints, Am.fnChk_facts]; exact staticB.fns f hf,
    (Am.facts_static staticF primsF (fun f hf => by obtain ⟨r, hr⟩ := Am.saysTrue_some (facts_true f hf); exact ⟨200, r, hr⟩)).prims⟩
end Go.Proofs.Ytcclbkkgpcpikaa
