/-
  Rules for walking code on plain values that are not closed.
-/
import Derived.Test.YtcclbkkgpcpikaaAm26
set_option linter.unusedSimpArgs false
set_option linter.unusedVariables false
namespace Go.Am

/-- A run that ends, and how. -/
def Holds {α : Type} (x : Option α) (Q : α → Prop) : Prop := ∃ r, x = some r ∧ Q r
theorem holds_some {α : Type} {r : α} {Q : α → Prop} : Holds (some r) Q = Q r := by
  simp [Holds]
theorem holds_bind {α β : Type} {x : Option α} {f : α → Option β} {Q : β → Prop} : Holds (x.bind f) Q = Holds x fun a => Holds (f a) Q := by
  cases x with
  | none => simp [Holds]
  | some a => simp [Holds]
theorem holds_map {α β : Type} {x : Option α} {f : α → β} {Q : β → Prop} : Holds (x.map f) Q = Holds x fun a => Q (f a) := by
  cases x with
  | none => simp [Holds]
  | some a => simp [Holds]
theorem Holds.mono {α : Type} {x : Option α} {Q R : α → Prop} (h : Holds x Q) (hqr : ∀ r, Q r → R r) : Holds x R := by
  obtain ⟨r, h1, h2⟩ := h
  exact ⟨r, h1, hqr r h2⟩

theorem omap_nil' {α β : Type} (f : α → Option β) : omap f [] = some [] := rfl
theorem omap_cons' {α β : Type} (f : α → Option β) (a : α) (l : List α) : omap f (a :: l) = (f a).bind fun b => (omap f l).bind fun s => some (b :: s) := rfl

section
variable {P : Program} {h : Hints} {E : Ev}
/-- An operation's guard, by the destinations of the region's operations. -/
noncomputable def want (ds : List (Option Tmp)) (tm : List (Nat × PV)) (j : Nat) (w : Bool) : Option Bool :=
  match ((ds[j]?).bind id).bind (get tm) with
  | some (.bool b) => some (b == w)
  | some (.tup []) => some false
  | _ => none
noncomputable def opE (P : Program) (h : Hints) (E : Ev) (H : List Mem) (ρ : Operand → Option PV) (op : Op) : ResW := opA P h E H ρ ⟨none, op, 0, "", #[], none⟩
theorem opA_op (H : List Mem) (ρ : Operand → Option PV) (o : Oper) : opA P h E H ρ o = opE P h E H ρ o.op := rfl
/-- Operations in a row. -/
noncomputable def runOps (P : Program) (h : Hints) (E : Ev) (N : Nat) (ds : List (Option Tmp)) : List Oper → St → Option St
  | [], s => some s
  | ⟨dst, op, ty, pos, after, none⟩ :: l, s => (opE P h E s.hp (ev s.tm) op).bind fun x => ((putT N dst x.1 s.tm).map fun tm => (⟨tm, x.2⟩ : St)).bind (runOps P h E N ds l)
  | ⟨dst, op, ty, pos, after, some (j, w)⟩ :: l, s => (want ds s.tm j w).bind fun b =>
    (bif b then (opE P h E s.hp (ev s.tm) op).bind fun x => ((putT N dst x.1 s.tm).map fun tm => (⟨tm, x.2⟩ : St)) else (putT N dst (.tup []) s.tm).map fun tm => ⟨tm, s.hp⟩).bind (runOps P h E N ds l)
theorem runOps_eq (N : Nat) (ops : Array Oper) : ∀ (l : List Oper) (s : St), stepOps P h E N ops l s = runOps P h E N (ops.toList.map (·.dst)) l s
  | [], s => rfl
  | ⟨dst, op, ty, pos, after, g⟩ :: l, s => by
    show (stepOp P h E N ops ⟨dst, op, ty, pos, after, g⟩ s).bind (stepOps P h E N ops l) = _
    rw [show stepOps P h E N ops l = runOps P h E N (ops.toList.map (·.dst)) l from funext (runOps_eq N ops l)]
    cases g with
    | none =>
      simp only [stepOp, wants, Option.bind_some, cond_true, runOps, opA_op]
      rw [Option.bind_assoc]
    | some jw =>
      obtain ⟨j, w⟩ := jw
      have hw : wants ops s.tm ⟨dst, op, ty, pos, after, some (j, w)⟩ = want (ops.toList.map (·.dst)) s.tm j w := by
        simp only [wants, want]
        have : (ops[j]?).bind (·.dst) = ((ops.toList.map (·.dst))[j]?).bind id := by
          rw [List.getElem?_map, Array.getElem?_toList]
          cases ops[j]? <;> rfl
        rw [this]
        generalize (((ops.toList.map (·.dst))[j]?).bind id).bind (get s.tm) = x
        cases x with
        | none => rfl
        | some v => cases v <;> first
          | rfl
          | (rename_i vs; cases vs <;> rfl)
      simp only [stepOp, hw, runOps, opA_op]
      rw [Option.bind_assoc]
theorem regA_run (N : Nat) (ops : Array Oper) (s : St) : regA P h E N [] ops s = runOps P h E N (ops.toList.map (·.dst)) ops.toList s := runOps_eq N ops _ s
theorem stepOps_nil (N : Nat) (ops : Array Oper) (s : St) : stepOps P h E N ops [] s = some s := rfl
theorem stepOps_cons (N : Nat) (ops : Array Oper) (o : Oper) (l : List Oper) (s : St) : stepOps P h E N ops (o :: l) s = (stepOp P h E N ops o s).bind (stepOps P h E N ops l) := rfl

/-- A loop whose every round lowers a measure. -/
theorem loop_rule {σ : Type} {c : Cx} {b : Code} (canon : σ → St) (Inv : σ → Prop) (meas : σ → Nat) (Q : σ → Ex × St → Prop)
    (round : ∀ a, Inv a → Holds (exS P h (lim P h) c b (canon a)) fun r => match r with
      | (.normal, s') => ∃ a', maskK (h.keep c.fid (firstReg b)) c s' = some (canon a') ∧ Inv a' ∧ meas a' < meas a ∧ ∀ r, Q a' r → Q a r
      | r => Q a r) :
    ∀ (a : σ) (s : St), Inv a → maskK (h.keep c.fid (firstReg b)) c s = some (canon a) → Holds ((lim P h).ex c (.loop b) s) (Q a) := by
  intro a
  induction hm : meas a using Nat.strongRecOn generalizing a with
  | _ n ih =>
    intro s hi hk
    obtain ⟨⟨e, s'⟩, h1, h2⟩ := round a hi
    have h3 : roundS P h (lim P h) c b s = some (e, s') := by unfold roundS; rw [hk]; exact h1
    cases e with
    | normal =>
      obtain ⟨a', h4, h5, h6, h7⟩ := h2
      obtain ⟨r, h8, h9⟩ := ih (meas a') (by omega) a' rfl s' h5 h4
      exact ⟨r, loop_next h3 h8, h7 r h9⟩
    | exit j => exact ⟨_, loop_done (by simp) h3, h2⟩
    | ret => exact ⟨_, loop_done (by simp) h3, h2⟩

/-- A function by its body. -/
theorem rn_rule {f : FuncId} {fn : Func} {code : Code} {args : List PV} {H : List Mem} {Q : PV × List Mem → Prop} (hok : h.ok f = true) (hf : P.funcs[f]? = some fn) (hb : fn.body = some code) (hn : args.length ≤ fn.ntmps)
    (hr : Holds (exS P h (lim P h) ⟨f, H.length, fn.ntmps⟩ code ⟨enterT 0 args, H⟩) fun r => Holds (finS P fn.results.toList r) Q) : Holds ((lim P h).rn f args H) Q := by
  obtain ⟨r, h1, r', h2, h3⟩ := hr
  exact ⟨r', rn_lim hok hf hb hn (by rw [h1]; exact h2), h3⟩

/-- A slice that came in: nil or by content. -/
def Sl (q : PV) (es : List (List PV)) : Prop := (q = .nils ∧ es = []) ∨ q = .lst es
theorem Sl.len {q : PV} {es : List (List PV)} (hq : Sl q es) {t e : TypeId} (hu : P.underlying t = some (.slice e)) (H : List Mem) : lenPV P H t q = some (.int .i64 es.length) := by
  rcases hq with ⟨rfl, rfl⟩ | rfl
  · simp [lenPV, hu]
  · simp [lenPV, hu]
theorem Sl.index {q : PV} {es : List (List PV)} (hq : Sl q es) {t e : TypeId} {z : Nat} (hu : P.underlying t = some (.slice e)) (hz : tsize P e = some z) (H : List Mem) {k : IntKind} {j : Int} {c : List PV} (h0 : 0 ≤ j) (hj : j < es.length) (hc : es[j.toNat]? = some c) (hcz : c.length = z) :
    indexAddrPV P H t q (.int k j) = some (.box c 0) := by
  rcases hq with ⟨rfl, rfl⟩ | rfl
  · simp at hj; omega
  · simp only [indexAddrPV, hu, hz, Option.bind_some]
    rw [if_pos ⟨h0, hj⟩, hc]
    simp [hcz]
end
end Go.Am
