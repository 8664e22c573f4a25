/-
  The hints for this seat's program; the static facts of its text.
-/
import Derived.Test.YtlnimeapichgmaaDoorAmC
import Derived.Test.YtlnimeapichgmaaDoorDp
import Derived.Lib.LaidTab
import Derived.Lib.ItoaMem
import Derived.Test.YtlnimeapichgmaaDoorRows
set_option linter.constructorNameAsVariable false
set_option linter.unusedSimpArgs false
set_option linter.unusedVariables false
namespace Go.Proofs.YtlnimeapichgmaaDoor
/-- What a table reads hangs on its block alone. -/
theorem tab_heap {P : Program} {w w' : World} {name : String} {k : IntKind} {zs : List Int} {g : Nat} (hg : P.globalNamed name = some g) (hb : w'.heap[g]? = w.heap[g]?) (h : Lib.TabIs P w name k zs) : Lib.TabIs P w' name k zs := by
  unfold Lib.TabIs World.var? at *
  simp only [hg, Option.bind_some] at h ⊢
  rw [hb]
  exact h
def powName : String := "internal/strconv.uint64pow10"
noncomputable instance natLaid : Am.Laid where
  ok S w := ∃ g, Tryd.prog.globalNamed powName = some g ∧ S g ∧ Lib.TabIs Tryd.prog w powName .u64 Lib.pow10Tab
  mono := by
    rintro S w S' w' h ⟨g, h1, h2, h3⟩
    exact ⟨g, h1, (h g h2).1, tab_heap h1 (h g h2).2 h3⟩
noncomputable def hOk : List Nat :=
  [3, 4, 5, 6, 7, 8, 9, 10, 11, 12, 13, 14, 15, 16, 17, 18, 19, 20, 21, 22, 23, 24, 25, 26, 27, 28, 29, 30, 31, 32, 33, 34, 35, 36, 37, 38, 39, 40, 42, 43, 44, 45, 46, 47, 48, 49, 50, 51, 52, 53, 54, 55, 56, 57, 61, 62, 63, 65, 66, 69, 70, 73, 41]
noncomputable def hMem : List Nat :=
  [15, 29, 31, 33, 36, 40, 42, 44, 45, 48, 49, 50, 52, 53, 55, 56, 57, 66]
noncomputable def hImp : List Nat :=
  [66]
noncomputable def hintsB : Am.Hints := Am.mkHints hOk [] hMem hImp [] [] [(40, [(5, [1])])] []
set_option maxRecDepth 100000 in
theorem staticB : Am.Static Tryd.prog hintsB := Am.static_of Tryd.checked.mixed (by decide +kernel)
noncomputable def hintsP (p : FuncId → Option (List Am.PV → Option Am.PV)) : Am.Hints := Am.withPrims hintsB p
def prims : FuncId → Option (List Am.PV → Option Am.PV)
  | 41 => some Dv.textG
  | 64 => some Dv.parseG
  | _ => none
noncomputable def hints : Am.Hints := hintsP prims
end Go.Proofs.YtlnimeapichgmaaDoor
