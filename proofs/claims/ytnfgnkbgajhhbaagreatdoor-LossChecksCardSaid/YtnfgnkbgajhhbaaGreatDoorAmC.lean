/-
  The evaluator of the model's code on plain values, with its soundness and its walking rules (part 3).
-/
import Derived.Test.YtnfgnkbgajhhbaaGreatDoorAmB
import Derived.IntWalk
set_option linter.constructorNameAsVariable false
/-
  One rule for each operation.
-/
set_option linter.unusedSimpArgs false
set_option linter.unusedVariables false
namespace Go.Am
section
variable {P : Program} {h : Hints} {E : Ev} {H : List Mem} {ρ : Operand → Option PV} {N : Nat} {ds : List (Option Tmp)}
noncomputable def runK (P : Program) (h : Hints) (E : Ev) (N : Nat) (ds : List (Option Tmp)) (dst : Option Tmp) (l : List Oper) (tm : List (Nat × PV)) (r : ResW) : Option St :=
  r.bind fun x => (putT N dst x.1 tm).bind fun tm' => runOps P h E N ds l ⟨tm', x.2⟩
noncomputable def runG (P : Program) (h : Hints) (E : Ev) (N : Nat) (ds : List (Option Tmp)) (dst : Option Tmp) (op : Op) (l : List Oper) (tm : List (Nat × PV)) (H : List Mem) (g : Option Bool) : Option St :=
  g.bind fun b => bif b then runK P h E N ds dst l tm (opE P h E H (ev tm) op) else runK P h E N ds dst l tm (some (.tup [], H))
theorem run_op (dst : Option Tmp) (op : Op) (ty : TypeId) (pos : String) (after : Array Edge) (l : List Oper) (tm : List (Nat × PV)) :
    runOps P h E N ds (⟨dst, op, ty, pos, after, none⟩ :: l) ⟨tm, H⟩ = runK P h E N ds dst l tm (opE P h E H (ev tm) op) := by
  simp only [runOps, runK]
  congr 1
  funext x
  cases putT N dst x.1 tm <;> rfl
theorem run_guard (dst : Option Tmp) (op : Op) (ty : TypeId) (pos : String) (after : Array Edge) (j : Nat) (w : Bool) (l : List Oper) (tm : List (Nat × PV)) :
    runOps P h E N ds (⟨dst, op, ty, pos, after, some (j, w)⟩ :: l) ⟨tm, H⟩ = runG P h E N ds dst op l tm H (want ds tm j w) := by
  simp only [runOps, runG]
  congr 1
  funext b
  cases b with
  | false =>
    simp only [cond_false, runK, Option.bind_some]
    cases putT N dst (.tup []) tm <;> rfl
  | true =>
    simp only [cond_true, runK, Option.bind_assoc]
    congr 1
    funext x
    cases putT N dst x.1 tm <;> rfl
theorem runG_true (dst : Option Tmp) (op : Op) (l : List Oper) (tm : List (Nat × PV)) : runG P h E N ds dst op l tm H (some true) = runK P h E N ds dst l tm (opE P h E H (ev tm) op) := rfl
theorem runG_false (dst : Option Tmp) (op : Op) (l : List Oper) (tm : List (Nat × PV)) : runG P h E N ds dst op l tm H (some false) = runK P h E N ds dst l tm (some (.tup [], H)) := rfl
noncomputable def regOut : Option St → Option (Ex × St)
  | some s => some (.normal, s)
  | none => none
noncomputable def wantV (w : Bool) : Option PV → Option Bool
  | some (.bool b) => some (b == w)
  | some (.tup []) => some false
  | _ => none
theorem want_eq (j : Nat) (w : Bool) (tm : List (Nat × PV)) : want ds tm j w = wantV w (((ds[j]?).bind id).bind (get tm)) := by
  simp only [want]
  generalize ((ds[j]?).bind id).bind (get tm) = x
  cases x with
  | none => rfl
  | some v => cases v <;> first
    | rfl
    | (rename_i vs; cases vs <;> rfl)
theorem e_call (f : FuncId) (args : Array Operand) (ts : Array TypeId) : opE P h E H ρ (.call ⟨.value (.func f), args, ts⟩) = (omap ρ args.toList).bind fun vs => callAny h E f vs H := by
  show (if h.opn f then wOpen h E H ρ f ⟨.value (.func f), args, ts⟩ else outR H (aCallC h E H H.length ρ f ⟨.value (.func f), args, ts⟩)) = _
  cases ho : h.opn f with
  | true => rfl
  | false =>
    simp only [Bool.false_eq_true, if_false, aCallC, ho, callAny]
    cases omap ρ args.toList with
    | none => rfl
    | some vs => rfl
theorem wrap64 {x : Int} (h1 : -9223372036854775808 ≤ x) (h2 : x ≤ 9223372036854775807) : IntKind.i64.wrap x = x := by
  rw [IntKind.wrap_i64]; omega
theorem part_agg {t : TypeId} {n : Nat} (ht : tagg P t = some true) (hn : tsize P t = some n) (cs : List PV) (off : Nat) (hle : off + n ≤ cs.length) : partOf P t cs off = some (.agg ((cs.drop off).take n)) := by
  simp only [partOf, ht, hn, Option.bind_some]
  rw [if_pos hle]
noncomputable def runL (P : Program) (h : Hints) (E : Ev) (N : Nat) (ls : List Nat) : List Oper → Nat → List (Nat × Oper × List (Nat × PV) × PV) → St → Option St
  | [], _, _, s => some s
  | ⟨dst, op, ty, pos, after, none⟩ :: l, i, acc, s => bif has i ls
    then (lightOp P h E s.hp (ev s.tm) ⟨dst, op, ty, pos, after, none⟩).bind fun v => (putT N dst v s.tm).bind fun tm => runL P h E N ls l (i + 1) ((i, ⟨dst, op, ty, pos, after, none⟩, s.tm, v) :: acc) ⟨tm, s.hp⟩
    else (opE P h E s.hp (ev s.tm) op).bind fun x => (putT N dst x.1 s.tm).bind fun tm => (again P h E (dropA h ⟨dst, op, ty, pos, after, none⟩ acc) x.2).bind fun _ => runL P h E N ls l (i + 1) (dropA h ⟨dst, op, ty, pos, after, none⟩ acc) ⟨tm, x.2⟩
  | _ :: _, _, _, _ => none
noncomputable def noG : List Oper → Bool
  | [] => true
  | ⟨_, _, _, _, _, none⟩ :: l => noG l
  | _ :: _ => false
theorem runL_eq (N : Nat) (ops : Array Oper) (ls : List Nat) : ∀ (l : List Oper) (i : Nat) (acc : List (Nat × Oper × List (Nat × PV) × PV)) (s : St), noG l = true → stepOpsL P h E N ops ls l i acc s = runL P h E N ls l i acc s
  | [], _, _, s, _ => rfl
  | ⟨dst, op, ty, pos, after, some g⟩ :: l, i, acc, s, hg => by cases hg
  | ⟨dst, op, ty, pos, after, none⟩ :: l, i, acc, s, hg => by
    show (stepE P h E N ops ls i ⟨dst, op, ty, pos, after, none⟩ s).bind (fun s' => bif has i ls then (addL P h E ops i ⟨dst, op, ty, pos, after, none⟩ s acc).bind fun acc' => stepOpsL P h E N ops ls l (i + 1) acc' s' else (again P h E (dropA h ⟨dst, op, ty, pos, after, none⟩ acc) s'.hp).bind fun _ => stepOpsL P h E N ops ls l (i + 1) (dropA h ⟨dst, op, ty, pos, after, none⟩ acc) s') = _
    have ih := fun j acc s => runL_eq N ops ls l j acc s hg
    cases hi : has i ls with
    | true =>
      simp only [runL, stepE, hi, cond_true, stepL, wants, Option.bind_some, addL]
      cases hlo : lightOp P h E s.hp (ev s.tm) ⟨dst, op, ty, pos, after, none⟩ with
      | none => rfl
      | some v =>
        simp only [Option.bind_some, Option.map_some]
        cases putT N dst v s.tm with
        | none => rfl
        | some tm => simp only [Option.map_some, Option.bind_some]; exact ih _ _ _
    | false =>
      simp only [runL, stepE, hi, cond_false, stepOp, wants, Option.bind_some, opA_op, cond_true]
      cases opE P h E s.hp (ev s.tm) op with
      | none => rfl
      | some x =>
        simp only [Option.bind_some]
        cases putT N dst x.1 s.tm with
        | none => rfl
        | some tm =>
          simp only [Option.map_some, Option.bind_some]
          cases again P h E (dropA h ⟨dst, op, ty, pos, after, none⟩ acc) x.2 with
          | none => rfl
          | some _ => simp only [Option.bind_some]; exact ih _ _ _
noncomputable def regL (P : Program) (h : Hints) (E : Ev) (N : Nat) (ls : List Nat) (ops : Array Oper) (s : St) : Option St := regA P h E N ls ops s
theorem regL_cons (N : Nat) (j : Nat) (ls : List Nat) (ops : Array Oper) (s : St) (hg : noG ops.toList = true) : regL P h E N (j :: ls) ops s = runL P h E N (j :: ls) ops.toList 0 [] s := runL_eq N ops _ _ _ _ _ hg
theorem x_region (c : Cx) (i : Nat) (ops : Array Oper) (d : Bool) (s : St) : exS P h E c (.region i ops d) s = regOut (regL P h E c.N (h.light c.fid i) ops s) := by
  show (regA P h E c.N (h.light c.fid i) ops s).map _ = _
  show _ = regOut (regA P h E c.N (h.light c.fid i) ops s)
  cases regA P h E c.N (h.light c.fid i) ops s <;> rfl
noncomputable def runLA (P : Program) (h : Hints) (E : Ev) (N : Nat) (ls : List Nat) (l : List Oper) (i : Nat) (acc : List (Nat × Oper × List (Nat × PV) × PV)) (s : St) : Option Unit → Option St
  | some _ => runL P h E N ls l i acc s
  | none => none
noncomputable def runLK (P : Program) (h : Hints) (E : Ev) (N : Nat) (ls : List Nat) (dst : Option Tmp) (l : List Oper) (i : Nat) (acc : List (Nat × Oper × List (Nat × PV) × PV)) (tm : List (Nat × PV)) : ResW → Option St
  | some x => (putT N dst x.1 tm).bind fun tm' => runLA P h E N ls l (i + 1) acc ⟨tm', x.2⟩ (again P h E acc x.2)
  | none => none
noncomputable def runLL (P : Program) (h : Hints) (E : Ev) (N : Nat) (ls : List Nat) (dst : Option Tmp) (o : Oper) (l : List Oper) (i : Nat) (acc : List (Nat × Oper × List (Nat × PV) × PV)) (tm : List (Nat × PV)) (H : List Mem) : Option PV → Option St
  | some v => (putT N dst v tm).bind fun tm' => runL P h E N ls l (i + 1) ((i, o, tm, v) :: acc) ⟨tm', H⟩
  | none => none
theorem runL_heavy (ls : List Nat) (N : Nat) (dst : Option Tmp) (op : Op) (ty : TypeId) (pos : String) (after : Array Edge) (l : List Oper) (i : Nat) (acc : List (Nat × Oper × List (Nat × PV) × PV)) (tm : List (Nat × PV)) (H : List Mem) (hi : has i ls = false) : runL P h E N ls (⟨dst, op, ty, pos, after, none⟩ :: l) i acc ⟨tm, H⟩ = runLK P h E N ls dst l i (dropA h ⟨dst, op, ty, pos, after, none⟩ acc) tm (opE P h E H (ev tm) op) := by
  simp only [runL, hi, cond_false]
  cases opE P h E H (ev tm) op with
  | none => rfl
  | some x =>
    simp only [Option.bind_some, runLK]
    congr 1
    funext tm'
    cases again P h E (dropA h ⟨dst, op, ty, pos, after, none⟩ acc) x.2 <;> rfl
theorem runL_light (ls : List Nat) (N : Nat) (dst : Option Tmp) (op : Op) (ty : TypeId) (pos : String) (after : Array Edge) (l : List Oper) (i : Nat) (acc : List (Nat × Oper × List (Nat × PV) × PV)) (tm : List (Nat × PV)) (H : List Mem) (hi : has i ls = true) : runL P h E N ls (⟨dst, op, ty, pos, after, none⟩ :: l) i acc ⟨tm, H⟩ = runLL P h E N ls dst ⟨dst, op, ty, pos, after, none⟩ l i acc tm H (lightOp P h E H (ev tm) ⟨dst, op, ty, pos, after, none⟩) := by
  simp only [runL, hi, cond_true]
  cases lightOp P h E H (ev tm) ⟨dst, op, ty, pos, after, none⟩ with
  | none => rfl
  | some v => rfl
noncomputable def againK (P : Program) (h : Hints) (E : Ev) (acc : List (Nat × Oper × List (Nat × PV) × PV)) (H : List Mem) (v : PV) : Option PV → Option Unit
  | some u => bif samePV u v then again P h E acc H else none
  | none => none
theorem again_cons (i : Nat) (o : Oper) (tm : List (Nat × PV)) (v : PV) (acc : List (Nat × Oper × List (Nat × PV) × PV)) (H : List Mem) : again P h E ((i, o, tm, v) :: acc) H = againK P h E acc H v (lightOp P h E H (ev tm) o) := by
  show (lightOp P h E H (ev tm) o).bind (fun u => bif samePV u v then again P h E acc H else none) = _
  cases lightOp P h E H (ev tm) o <;> rfl
theorem againK_some (acc : List (Nat × Oper × List (Nat × PV) × PV)) (H : List Mem) (u v : PV) (hs : samePV u v = true) : againK P h E acc H v (some u) = again P h E acc H := by
  simp only [againK, hs, cond_true]
theorem val_light (v : Option PV) : ((val v).bind fun x => match x with | (v, [], []) => some v | _ => none) = v := by cases v <;> rfl
section
variable (dst : Option Tmp) (ty : TypeId) (pos : String) (after : Array Edge) (g : Option (Nat × Bool))
theorem light_load (t : TypeId) (a : Operand) : lightOp P h E H ρ ⟨dst, .load t a, ty, pos, after, g⟩ = aLoad P H t (ρ a) := val_light _
end
noncomputable def findLoop (r : Nat) : Code → Option Code
  | .seq a b => match findLoop r a with
    | some c => some c
    | none => findLoop r b
  | .cond _ a b => match findLoop r a with
    | some c => some c
    | none => findLoop r b
  | .block _ b => findLoop r b
  | .loop b => bif Nat.beq (firstReg b) r then some b else findLoop r b
  | .scope b => findLoop r b
  | _ => none
noncomputable def bodyOf (f : Func) : Code := match f.body with | some c => c | none => .skip
noncomputable def loopOf (f : Func) (r : Nat) : Code := match findLoop r (bodyOf f) with | some c => c | none => .skip
def Flat (v : PV) : Prop := idsOf v = [] ∧ okIds v = true ∧ ∀ l, ren l v = v
theorem flat_nils : Flat .nils := ⟨rfl, rfl, fun _ => rfl⟩
theorem flat_lst (es : List (List PV)) : Flat (.lst es) := ⟨rfl, rfl, fun _ => rfl⟩
theorem Sl.flat {q : PV} {es : List (List PV)} (hq : Sl q es) : Flat q := by
  rcases hq with ⟨rfl, _⟩ | rfl
  · exact flat_nils
  · exact flat_lst _
end
end Go.Am
/-
  Rules for calls, for what is built, for strings and maps.
-/
set_option linter.unusedSimpArgs false
set_option linter.unusedVariables false
namespace Go.Am
section
variable {P : Program} {h : Hints} {E : Ev} {H : List Mem} {ρ : Operand → Option PV}
theorem cv_chr {s d : TypeId} (hs : (P.underlying s).isSome = true) (hd : P.underlying d = some .string) (k : IntKind) {n : Int} (h0 : 0 ≤ n) (h1 : n < 128) : convPV P H s d (.int k n) = some (.str ⟨#[UInt8.ofNat n.toNat]⟩) := by
  unfold convPV
  obtain ⟨x, hx⟩ := Option.isSome_iff_exists.1 hs
  rw [hx, hd]
  cases x <;> simp [h0, h1]
theorem exp_bool (b : Bool) : exp expFuel H (.bool b) = some (.bool b) := rfl
def Plain (v : PV) : Prop := ∀ n H, exp (n + 1) H v = some v
theorem plain_nils : Plain .nils := fun _ _ => rfl
theorem plain_lst (es : List (List PV)) : Plain (.lst es) := fun _ _ => rfl
theorem Sl.plain {q : PV} {es : List (List PV)} (hq : Sl q es) : Plain q := by
  rcases hq with ⟨rfl, _⟩ | rfl
  · exact plain_nils
  · exact plain_lst _
theorem Plain.exp {v : PV} (hv : Plain v) : exp expFuel H v = some v := hv 39 H
theorem Sl.rch {q : PV} {es : List (List PV)} (hq : Sl q es) : rch expFuel H q = [] := by
  rcases hq with ⟨rfl, _⟩ | rfl <;> rfl
end
end Go.Am
/-
  Rules for own memory numbered anew.
-/
set_option linter.unusedSimpArgs false
set_option linter.unusedVariables false
namespace Go.Am
section
variable {P : Program} {h : Hints} {E : Ev} {H : List Mem}
noncomputable def compactK (tm : List (Nat × PV)) (H : List Mem) (ids : List Nat) : Option St :=
  if tm.all (fun x => okIds x.2) = true then
    (omap (fun i => (H[i]?).bind fun m => if (okM m && (idsM m).all ids.contains) = true then some (renM ids m) else none) ids).map fun H' => ⟨tm.map fun x => (x.1, ren ids x.2), H'⟩
  else none
noncomputable def idsT (tm : List (Nat × PV)) : List Nat := (tm.flatMap fun x => idsOf x.2).foldl addNew []
noncomputable def closeStep (H : List Mem) (ids : List Nat) : List Nat := (ids.flatMap (idsAt H)).foldl addNew ids
theorem compact_run (tm : List (Nat × PV)) : compact tm H = compactK tm H (closeStep H (closeStep H (closeStep H (idsT tm)))) := rfl
noncomputable def idsO : Option Mem → List Nat
  | some m => idsM m
  | none => []
theorem idsAt_eq (i : Nat) : idsAt H i = idsO H[i]? := by
  unfold idsAt idsO
  cases H[i]? <;> rfl
theorem idsO_some (m : Mem) : idsO (some m) = idsM m := rfl
theorem idsM_flat {m : Mem} (hm : flatM m = true) : idsM m = [] := by simp [idsM, hm]
theorem okM_flat {m : Mem} (hm : flatM m = true) : okM m = true := by simp [okM, hm]
theorem renM_flat {m : Mem} (hm : flatM m = true) (l : List Nat) : renM l m = m := by simp [renM, hm]
theorem flatM_row (es : List (List PV)) (z : Nat) (m : Bool) : flatM (.row es z m) = es.all fun c => c.all noIds := rfl
theorem flat_rows {es : List (List PV)} (he : ∀ c ∈ es, ∀ v ∈ c, noIds v = true) (z : Nat) (m : Bool) : flatM (.row es z m) = true := by
  rw [flatM_row, List.all_eq_true]
  exact fun c hc => List.all_eq_true.2 (he c hc)
theorem Sl.ids {q : PV} {es : List (List PV)} (hq : Sl q es) : idsOf q = [] ∧ okIds q = true ∧ (∀ l, ren l q = q) ∧ idsOf1 q = [] ∧ okIds1 q = true ∧ (∀ l, ren1 l q = q) ∧ noIds q = true := by
  rcases hq with ⟨rfl, _⟩ | rfl <;> exact ⟨rfl, rfl, fun _ => rfl, rfl, rfl, fun _ => rfl, rfl⟩
theorem Flat.ids {v : PV} (hv : Flat v) : idsOf v = [] ∧ okIds v = true ∧ ∀ l, ren l v = v := hv
end
end Go.Am
/-
  What the evaluator's call gives, as a contract of the model: for walks in the kit's own calculus.
-/
set_option linter.unusedSimpArgs false
set_option linter.unusedVariables false
namespace Go.Am
open Go.RowKit
set_option linter.unusedSectionVars false
section
variable [Laid] {P : Program} {h : Hints} {E : Ev}
end
end Go.Am
/-
  Hints with functions whose contracts were proved otherwise.
-/
set_option linter.unusedSimpArgs false
set_option linter.unusedVariables false
namespace Go.Am
set_option linter.unusedSectionVars false
section
variable [Laid] {P : Program} {h : Hints}
noncomputable def withPrims (h : Hints) (p : FuncId → Option (List PV → Option PV)) : Hints := { h with prim := p }
variable {p : FuncId → Option (List PV → Option PV)}
theorem firstW_prims (ls : List Nat) : ∀ (os : List Oper) (i : Nat), firstW (withPrims h p) ls os i = firstW h ls os i
  | [], _ => rfl
  | o :: os, i => by
    simp only [firstW, firstW_prims ls os]
    rfl
theorem drawOk_prims (ls : List Nat) (ops : Array Oper) : drawOk (withPrims h p) ls ops = drawOk h ls ops := by
  simp only [drawOk, firstW_prims]
theorem codeOk_prims (f : FuncId) : ∀ c : Code, codeOk (withPrims h p) f c = codeOk h f c
  | .region _ _ _ => by simp only [codeOk, drawOk_prims]; rfl
  | .seq a b => by simp only [codeOk, codeOk_prims f a, codeOk_prims f b]
  | .cond _ a b => by simp only [codeOk, codeOk_prims f a, codeOk_prims f b]
  | .block _ b => by simp only [codeOk, codeOk_prims f b]
  | .loop b => by simp only [codeOk, codeOk_prims f b]
  | .skip | .label _ | .exit _ | .ret | .goto _ | .refuse _ | .rangeFunc _ _ _ _ | .scope _ => rfl
theorem fnChk_prims (f : FuncId) : fnChk P (withPrims h p) f = fnChk P h f := by
  simp only [fnChk, codeOk_prims]
theorem prims_static (hS : Static P h) (hp : ∀ f, (p f).isSome = true → FnOk P f) : Static P (withPrims h p) :=
  ⟨hS.mixed, fun f hf => by rw [fnChk_prims]; exact hS.fns f hf, hp⟩
end
end Go.Am