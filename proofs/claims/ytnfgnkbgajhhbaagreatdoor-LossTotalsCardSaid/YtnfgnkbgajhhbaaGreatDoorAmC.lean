/-
  The evaluator of the model's code on plain values, with its soundness and its walking rules (part 3).
-/
import Derived.Test.YtnfgnkbgajhhbaaGreatDoorAmB
set_option linter.constructorNameAsVariable false
/-
  Rules for calls, for what is built, for strings and maps.
-/
set_option linter.unusedSimpArgs false
set_option linter.unusedVariables false
namespace Go.Am

section
variable {P : Program} {h : Hints} {E : Ev} {H : List Mem} {ρ : Operand → Option PV}

/-! conversions and strings -/
theorem cv_chr {s d : TypeId} (hs : (P.underlying s).isSome = true) (hd : P.underlying d = some .string) (k : IntKind) {n : Int} (h0 : 0 ≤ n) (h1 : n < 128) : convPV P H s d (.int k n) = some (.str ⟨#[UInt8.ofNat n.toNat]⟩) := by
  unfold convPV
  obtain ⟨x, hx⟩ := Option.isSome_iff_exists.1 hs
  rw [hx, hd]
  cases x <;> simp [h0, h1]
/-! what is built -/
/-! calls -/
theorem exp_bool (b : Bool) : exp expFuel H (.bool b) = some (.bool b) := rfl
/-- A value that is its own content. -/
def Plain (v : PV) : Prop := ∀ n H, exp (n + 1) H v = some v
theorem plain_nils : Plain .nils := fun _ _ => rfl
theorem plain_lst (es : List (List PV)) : Plain (.lst es) := fun _ _ => rfl
theorem Sl.plain {q : PV} {es : List (List PV)} (hq : Sl q es) : Plain q := by
  rcases hq with ⟨rfl, _⟩ | rfl
  · exact plain_nils
  · exact plain_lst _
theorem Plain.exp {v : PV} (hv : Plain v) : exp expFuel H v = some v := hv 39 H
theorem Sl.rch {q : PV} {es : List (List PV)} (hq : Sl q es) : rch expFuel H q = [] := by
  rcases hq with ⟨rfl, _⟩ | rfl <;> rfl
/-! maps with strings as keys -/
end
end Go.Am

/-
  Rules for own memory numbered anew.
-/
set_option linter.unusedSimpArgs false
set_option linter.unusedVariables false
namespace Go.Am

section
variable {P : Program} {h : Hints} {E : Ev} {H : List Mem}

/-- Own memory numbered anew, the numbers kept given. -/
noncomputable def compactK (tm : List (Nat × PV)) (H : List Mem) (ids : List Nat) : Option St :=
  if tm.all (fun x => okIds x.2) = true then
    (omap (fun i => (H[i]?).bind fun m => if (okM m && (idsM m).all ids.contains) = true then some (renM ids m) else none) ids).map fun H' => ⟨tm.map fun x => (x.1, ren ids x.2), H'⟩
  else none
noncomputable def idsT (tm : List (Nat × PV)) : List Nat := (tm.flatMap fun x => idsOf x.2).foldl addNew []
noncomputable def closeStep (H : List Mem) (ids : List Nat) : List Nat := (ids.flatMap (idsAt H)).foldl addNew ids
theorem compact_run (tm : List (Nat × PV)) : compact tm H = compactK tm H (closeStep H (closeStep H (closeStep H (idsT tm)))) := rfl
noncomputable def idsO : Option Mem → List Nat
  | some m => idsM m
  | none => []
theorem idsAt_eq (i : Nat) : idsAt H i = idsO H[i]? := by
  unfold idsAt idsO
  cases H[i]? <;> rfl
theorem idsO_some (m : Mem) : idsO (some m) = idsM m := rfl
theorem idsM_flat {m : Mem} (hm : flatM m = true) : idsM m = [] := by simp [idsM, hm]
theorem okM_flat {m : Mem} (hm : flatM m = true) : okM m = true := by simp [okM, hm]
theorem renM_flat {m : Mem} (hm : flatM m = true) (l : List Nat) : renM l m = m := by simp [renM, hm]
theorem flatM_row (es : List (List PV)) (z : Nat) (m : Bool) : flatM (.row es z m) = es.all fun c => c.all noIds := rfl
theorem flat_rows {es : List (List PV)} (he : ∀ c ∈ es, ∀ v ∈ c, noIds v = true) (z : Nat) (m : Bool) : flatM (.row es z m) = true := by
  rw [flatM_row, List.all_eq_true]
  exact fun c hc => List.all_eq_true.2 (he c hc)
/-- What a slice that came in is to numbers. -/
theorem Sl.ids {q : PV} {es : List (List PV)} (hq : Sl q es) : idsOf q = [] ∧ okIds q = true ∧ (∀ l, ren l q = q) ∧ idsOf1 q = [] ∧ okIds1 q = true ∧ (∀ l, ren1 l q = q) ∧ noIds q = true := by
  rcases hq with ⟨rfl, _⟩ | rfl <;> exact ⟨rfl, rfl, fun _ => rfl, rfl, rfl, fun _ => rfl, rfl⟩
theorem Flat.ids {v : PV} (hv : Flat v) : idsOf v = [] ∧ okIds v = true ∧ ∀ l, ren l v = v := hv
end
end Go.Am

/-
  What the evaluator's call gives, as a contract of the model: for walks in the kit's own calculus.
-/
set_option linter.unusedSimpArgs false
set_option linter.unusedVariables false
namespace Go.Am
open Go.RowKit
set_option linter.unusedSectionVars false
section
variable [Laid] {P : Program} {h : Hints} {E : Ev}
end
end Go.Am

/-
  Hints with functions whose contracts were proved otherwise.
-/
set_option linter.unusedSimpArgs false
set_option linter.unusedVariables false
namespace Go.Am
set_option linter.unusedSectionVars false
section
variable [Laid] {P : Program} {h : Hints}
noncomputable def withPrims (h : Hints) (p : FuncId → Option (List PV → Option PV)) : Hints := { h with prim := p }
variable {p : FuncId → Option (List PV → Option PV)}
theorem firstW_prims (ls : List Nat) : ∀ (os : List Oper) (i : Nat), firstW (withPrims h p) ls os i = firstW h ls os i
  | [], _ => rfl
  | o :: os, i => by
    simp only [firstW, firstW_prims ls os]
    rfl
theorem drawOk_prims (ls : List Nat) (ops : Array Oper) : drawOk (withPrims h p) ls ops = drawOk h ls ops := by
  simp only [drawOk, firstW_prims]
theorem codeOk_prims (f : FuncId) : ∀ c : Code, codeOk (withPrims h p) f c = codeOk h f c
  | .region _ _ _ => by simp only [codeOk, drawOk_prims]; rfl
  | .seq a b => by simp only [codeOk, codeOk_prims f a, codeOk_prims f b]
  | .cond _ a b => by simp only [codeOk, codeOk_prims f a, codeOk_prims f b]
  | .block _ b => by simp only [codeOk, codeOk_prims f b]
  | .loop b => by simp only [codeOk, codeOk_prims f b]
  | .skip | .label _ | .exit _ | .ret | .goto _ | .refuse _ | .rangeFunc _ _ _ _ | .scope _ => rfl
theorem fnChk_prims (f : FuncId) : fnChk P (withPrims h p) f = fnChk P h f := by
  simp only [fnChk, codeOk_prims]
theorem prims_static (hS : Static P h) (hp : ∀ f, (p f).isSome = true → FnOk P f) : Static P (withPrims h p) :=
  ⟨hS.mixed, fun f hf => by rw [fnChk_prims]; exact hS.fns f hf, hp⟩
end
end Go.Am
