/-
  Hints from lists.
-/
import Derived.Test.YtcclbkkgpcpikaaAm22
set_option linter.unusedSimpArgs false
set_option linter.unusedVariables false
namespace Go.Am

noncomputable def assoc {α : Type} (l : List (Nat × α)) (i : Nat) : Option α :=
  List.rec none (fun p _ ih => bif Nat.beq i p.1 then some p.2 else ih) l
noncomputable def mkHints (ok opn mem imp : List Nat) (keep keepB : List (Nat × List (Nat × List Nat × Bool))) (light : List (Nat × List (Nat × List Nat))) (frz : List Nat) : Hints where
  ok := fun f => has f ok
  opn := fun f => has f opn
  mem := fun f => has f mem
  imp := fun f => has f imp
  keep := fun f r => (assoc keep f).bind fun l => assoc l r
  keepB := fun f r => (assoc keepB f).bind fun l => assoc l r
  light := fun f r => ((assoc light f).bind fun l => assoc l r).getD []
  frz := fun t => has t frz
  prim := fun _ => none

theorem static_of {P : Program} {ok opn mem imp : List Nat} {keep keepB : List (Nat × List (Nat × List Nat × Bool))} {light : List (Nat × List (Nat × List Nat))} {frz : List Nat} (hm : P.follows .mixedOrders = true)
    (hf : (ok.all fun f => fnChk P (mkHints ok opn mem imp keep keepB light frz) f) = true) : Static P (mkHints ok opn mem imp keep keepB light frz) :=
  ⟨hm, fun f h => List.all_eq_true.1 hf f (has_mem h), fun f h => by simp [mkHints] at h⟩
theorem noPrims {P : Program} {ok opn mem imp : List Nat} {keep keepB : List (Nat × List (Nat × List Nat × Bool))} {light : List (Nat × List (Nat × List Nat))} {frz : List Nat} : PrimSound P (mkHints ok opn mem imp keep keepB light frz) := fun f g h => by simp [mkHints] at h

/-- A call without arguments that answers true (a kernel run). -/
noncomputable def saysTrue (r : Option (PV × List Mem)) : Bool :=
  match r with
  | some (.bool true, _) => true
  | _ => false
end Go.Am
