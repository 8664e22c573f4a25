/-
  The evaluator at every depth at once.
-/
import Derived.Test.YtcclbkkgpcpikaaAm23
set_option linter.unusedSimpArgs false
set_option linter.unusedVariables false
namespace Go.Am

/-- From some number on. -/
def Evt (p : Nat → Prop) : Prop := ∃ n, ∀ m, n ≤ m → p m
theorem Evt.of {p : Nat → Prop} (h : ∀ m, p m) : Evt p := ⟨0, fun m _ => h m⟩
theorem Evt.and {p q : Nat → Prop} (h : Evt p) (h' : Evt q) : Evt fun m => p m ∧ q m := by
  obtain ⟨n, h⟩ := h
  obtain ⟨n', h'⟩ := h'
  exact ⟨max n n', fun m hm => ⟨h m (by omega), h' m (by omega)⟩⟩
theorem Evt.mono {p q : Nat → Prop} (h : Evt p) (hpq : ∀ m, p m → q m) : Evt q := by
  obtain ⟨n, h⟩ := h
  exact ⟨n, fun m hm => hpq m (h m hm)⟩

structure Tends (Es : Nat → Ev) (L : Ev) : Prop where
  ex : ∀ c code s r, L.ex c code s = some r → Evt fun m => (Es m).ex c code s = some r
  rn : ∀ f a H r, L.rn f a H = some r → Evt fun m => (Es m).rn f a H = some r

section
variable (Es : Nat → Ev) (L : Ev)
def Ec {α : Type} (F : Ev → Option α) : Prop := ∀ r, F L = some r → Evt fun m => F (Es m) = some r
variable {Es L}
theorem Ec.const {α : Type} (x : Option α) : Ec Es L fun _ => x := fun _ h => Evt.of fun _ => h
theorem Ec.bind {α β : Type} {F : Ev → Option α} {G : α → Ev → Option β} (h : Ec Es L F) (h' : ∀ a, Ec Es L (G a)) : Ec Es L fun E => (F E).bind fun a => G a E := by
  intro r hr
  obtain ⟨a, h1, h2⟩ := bind1 hr
  exact ((h a h1).and (h' a r h2)).mono fun m hm => by show ((F (Es m)).bind fun a => G a (Es m)) = some r; rw [hm.1]; exact hm.2
theorem Ec.map {α β : Type} {F : Ev → Option α} (g : α → β) (h : Ec Es L F) : Ec Es L fun E => (F E).map g := by
  intro r hr
  obtain ⟨a, h1, h2⟩ := map1 hr
  exact (h a h1).mono fun m hm => by show (F (Es m)).map g = some r; rw [hm, ← h2]; rfl
theorem Ec.ite {α : Type} {c : Prop} [Decidable c] {F G : Ev → Option α} (h : Ec Es L F) (h' : Ec Es L G) : Ec Es L fun E => if c then F E else G E := by
  by_cases hc : c
  · simpa only [if_pos hc] using h
  · simpa only [if_neg hc] using h'
theorem Ec.cond {α : Type} {c : Bool} {F G : Ev → Option α} (h : Ec Es L F) (h' : Ec Es L G) : Ec Es L fun E => bif c then F E else G E := by
  cases c
  · exact h'
  · exact h

variable {P : Program} {h : Hints}
theorem ec_pureCall (hT : Tends Es L) (f : FuncId) (qs : List PV) : Ec Es L fun E => pureCall h E f qs := by
  unfold pureCall
  cases h.prim f with
  | none => exact Ec.bind (hT.rn f qs []) fun x => Ec.const _
  | some g => exact Ec.const _
theorem ec_impCall (hT : Tends Es L) (f : FuncId) (qs : List PV) (base : Nat) : Ec Es L fun E => impCall E f qs base := by
  unfold impCall
  exact Ec.bind (hT.rn f qs []) fun x => Ec.const _
theorem ec_callC (hT : Tends Es L) (f : FuncId) (args : List PV) (H : List Mem) (base : Nat) : Ec Es L fun E => callC h E f args H base := by
  unfold callC
  refine Ec.bind (Ec.const _) fun qs => ?_
  refine Ec.cond ?_ ?_
  · unfold impC; exact Ec.map _ (ec_impCall hT f qs base)
  · unfold pureC; exact Ec.bind (ec_pureCall hT f qs) fun q => Ec.const _
theorem ec_aCallC (hT : Tends Es L) (H : List Mem) (base : Nat) (ρ : Operand → Option PV) (f : FuncId) (c : Call) : Ec Es L fun E => aCallC h E H base ρ f c := by
  unfold aCallC
  exact Ec.ite (Ec.const _) (Ec.bind (Ec.const _) fun vs => ec_callC hT f vs H base)
theorem ec_aCallR (hT : Tends Es L) (H : List Mem) (base : Nat) (ρ : Operand → Option PV) (c : Call) : Ec Es L fun E => aCallR P h E H base ρ c := by
  unfold aCallR
  split
  · exact Ec.const _
  · exact ec_aCallC hT H base ρ _ c
  · exact Ec.const _
theorem ec_opR (hT : Tends Es L) (H : List Mem) (base : Nat) (ρ : Operand → Option PV) (o : Oper) : Ec Es L fun E => opR P h E H base ρ o := by
  unfold opR
  split
  case h_23 => exact ec_aCallR hT H base ρ _
  all_goals exact Ec.const _
theorem ec_lightOp (hT : Tends Es L) (H : List Mem) (ρ : Operand → Option PV) (o : Oper) : Ec Es L fun E => lightOp P h E H ρ o := by
  unfold lightOp
  exact Ec.bind (ec_opR hT H _ ρ o) fun x => Ec.const _
theorem ec_callAny (hT : Tends Es L) (f : FuncId) (args : List PV) (H : List Mem) : Ec Es L fun E => callAny h E f args H := by
  unfold callAny
  exact Ec.ite (hT.rn f args H) (Ec.map _ (ec_callC hT f args H H.length))
theorem ec_wOpen (hT : Tends Es L) (H : List Mem) (ρ : Operand → Option PV) (f : FuncId) (c : Call) : Ec Es L fun E => wOpen h E H ρ f c := by
  unfold wOpen
  exact Ec.bind (Ec.const _) fun vs => ec_callAny hT f vs H
theorem ec_wDyn (hT : Tends Es L) (H : List Mem) (ρ : Operand → Option PV) (x : Operand) (c : Call) : Ec Es L fun E => wDyn h E H ρ x c := by
  unfold wDyn
  refine Ec.bind (Ec.const _) fun fv => ?_
  cases fv <;> first
    | exact Ec.const _
    | exact Ec.bind (Ec.const _) fun vs => ec_callAny hT _ _ H
theorem ec_aCall (hT : Tends Es L) (H : List Mem) (ρ : Operand → Option PV) (c : Call) : Ec Es L fun E => aCall P h E H ρ c := by
  unfold aCall
  split
  · exact Ec.const _
  · refine Ec.ite (ec_wOpen hT H ρ _ c) ?_
    unfold outR
    exact Ec.map _ (ec_aCallC hT H H.length ρ _ c)
  · exact ec_wDyn hT H ρ _ c
  · exact Ec.const _
theorem ec_opA (hT : Tends Es L) (H : List Mem) (ρ : Operand → Option PV) (o : Oper) : Ec Es L fun E => opA P h E H ρ o := by
  unfold opA
  split
  case h_23 => exact ec_aCall hT H ρ _
  all_goals exact Ec.const _
theorem ec_stepOp (hT : Tends Es L) (N : Nat) (ops : Array Oper) (o : Oper) (s : St) : Ec Es L fun E => stepOp P h E N ops o s := by
  unfold stepOp
  refine Ec.bind (Ec.const _) fun b => Ec.cond (Ec.bind (ec_opA hT _ _ o) fun x => Ec.const _) (Ec.const _)
theorem ec_stepOps (hT : Tends Es L) (N : Nat) (ops : Array Oper) : ∀ (l : List Oper) (s : St), Ec Es L fun E => stepOps P h E N ops l s
  | [], s => Ec.const _
  | o :: l, s => Ec.bind (ec_stepOp hT N ops o s) fun s' => ec_stepOps hT N ops l s'
theorem ec_stepE (hT : Tends Es L) (N : Nat) (ops : Array Oper) (ls : List Nat) (i : Nat) (o : Oper) (s : St) : Ec Es L fun E => stepE P h E N ops ls i o s := by
  unfold stepE
  refine Ec.cond ?_ (ec_stepOp hT N ops o s)
  unfold stepL
  exact Ec.bind (Ec.const _) fun b => Ec.cond (Ec.bind (ec_lightOp hT _ _ o) fun x => Ec.const _) (Ec.const _)
theorem ec_again (hT : Tends Es L) (H : List Mem) : ∀ acc : List (Oper × List (Nat × PV) × PV), Ec Es L fun E => again P h E acc H
  | [] => Ec.const _
  | x :: acc => Ec.bind (ec_lightOp hT H _ x.1) fun _ => Ec.cond (ec_again hT H acc) (Ec.const _)
theorem ec_addL (hT : Tends Es L) (ops : Array Oper) (o : Oper) (s : St) (acc : List (Oper × List (Nat × PV) × PV)) : Ec Es L fun E => addL P h E ops o s acc := by
  unfold addL
  exact Ec.bind (Ec.const _) fun b => Ec.cond (Ec.map _ (ec_lightOp hT _ _ o)) (Ec.const _)
theorem ec_stepOpsL (hT : Tends Es L) (N : Nat) (ops : Array Oper) (ls : List Nat) : ∀ (l : List Oper) (i : Nat) (acc : List (Oper × List (Nat × PV) × PV)) (s : St), Ec Es L fun E => stepOpsL P h E N ops ls l i acc s
  | [], _, _, s => Ec.const _
  | o :: l, i, acc, s => Ec.bind (ec_stepE hT N ops ls i o s) fun s' => Ec.cond (Ec.bind (ec_addL hT ops o s acc) fun acc' => ec_stepOpsL hT N ops ls l (i + 1) acc' s') (Ec.bind (ec_again hT _ acc) fun _ => ec_stepOpsL hT N ops ls l (i + 1) acc s')
theorem ec_regA (hT : Tends Es L) (N : Nat) (ls : List Nat) (ops : Array Oper) (s : St) : Ec Es L fun E => regA P h E N ls ops s := by
  unfold regA
  split
  · exact ec_stepOps hT N ops _ s
  · exact ec_stepOpsL hT N ops _ _ _ _ s

theorem tends_step (hT : Tends Es L) : Tends (fun m => step P h (Es m)) (step P h L) := by
  refine ⟨fun c code s => ?_, fun f a H => ?_⟩
  · show Ec Es L fun E => (step P h E).ex c code s
    cases code with
    | region id ops d =>
      simp only [step]
      exact Ec.map _ (ec_regA hT _ _ _ _)
    | seq a b =>
      simp only [step]
      refine Ec.bind (hT.ex c a s) fun x => ?_
      obtain ⟨e, s'⟩ := x
      cases e
      · exact hT.ex c b s'
      · exact Ec.const _
      · exact Ec.const _
    | cond x a b =>
      simp only [step]
      refine Ec.bind (Ec.const _) fun v => ?_
      cases v <;> first
        | exact Ec.const _
        | exact hT.ex _ _ _
    | block id b =>
      simp only [step]
      refine Ec.bind (hT.ex c b s) fun x => ?_
      exact Ec.const _
    | loop b =>
      simp only [step]
      refine Ec.bind (Ec.const _) fun s0 => Ec.bind (hT.ex c b s0) fun x => ?_
      obtain ⟨e, s'⟩ := x
      cases e
      · exact hT.ex c (.loop b) s'
      · exact Ec.const _
      · exact Ec.const _
    | _ => exact Ec.const _
  · show Ec Es L fun E => (step P h E).rn f a H
    simp only [step]
    refine Ec.ite ?_ (Ec.const _)
    split
    · split
      · refine Ec.ite ?_ (Ec.const _)
        exact Ec.bind (hT.ex _ _ _) fun x => Ec.const _
      · exact Ec.const _
    · exact Ec.const _
end

section
open Classical
/-- The evaluator without a bound on its depth. -/
noncomputable def lim (P : Program) (h : Hints) : Ev where
  ex := fun c code s => if H : ∃ r, Evt fun m => (evalF P h m).ex c code s = some r then some H.choose else none
  rn := fun f a M => if H : ∃ r, Evt fun m => (evalF P h m).rn f a M = some r then some H.choose else none
end

section
variable {P : Program} {h : Hints}
theorem lim_tends : Tends (evalF P h) (lim P h) := by
  refine ⟨fun c code s r hr => ?_, fun f a H r hr => ?_⟩
  · simp only [lim] at hr
    split at hr
    · rename_i hx
      cases hr
      exact hx.choose_spec
    · cases hr
  · simp only [lim] at hr
    split at hr
    · rename_i hx
      cases hr
      exact hx.choose_spec
    · cases hr
theorem Evt.det {α : Type} {F : Nat → Option α} {r r' : α} (h : Evt fun m => F m = some r) (h' : Evt fun m => F m = some r') : r = r' := by
  obtain ⟨n, hn⟩ := h.and h'
  have := hn n (Nat.le_refl _)
  have := this.1.symm.trans this.2
  exact Option.some.inj this
theorem Evt.succ {p : Nat → Prop} (h : Evt fun m => p (m + 1)) : Evt p := by
  obtain ⟨n, h⟩ := h
  refine ⟨n + 1, fun m hm => ?_⟩
  obtain ⟨k, rfl⟩ : ∃ k, m = k + 1 := ⟨m - 1, by omega⟩
  exact h k (by omega)
theorem lim_ex {c : Cx} {code : Code} {s : St} {r : Ex × St} (hr : (step P h (lim P h)).ex c code s = some r) : (lim P h).ex c code s = some r := by
  have h1 : Evt fun m => (evalF P h m).ex c code s = some r := Evt.succ ((tends_step lim_tends).ex c code s r hr)
  have hx : ∃ r, Evt fun m => (evalF P h m).ex c code s = some r := ⟨r, h1⟩
  simp only [lim]
  rw [dif_pos hx]
  exact congrArg some (Evt.det hx.choose_spec h1)
theorem lim_rn {f : FuncId} {a : List PV} {H : List Mem} {r : PV × List Mem} (hr : (step P h (lim P h)).rn f a H = some r) : (lim P h).rn f a H = some r := by
  have h1 : Evt fun m => (evalF P h m).rn f a H = some r := Evt.succ ((tends_step lim_tends).rn f a H r hr)
  have hx : ∃ r, Evt fun m => (evalF P h m).rn f a H = some r := ⟨r, h1⟩
  simp only [lim]
  rw [dif_pos hx]
  exact congrArg some (Evt.det hx.choose_spec h1)
theorem evalF_le : ∀ n, Tends (fun _ => evalF P h (n + 1)) (evalF P h n)
  | 0 => ⟨fun c code s r hr => (by cases hr), fun f a H r hr => (by cases hr)⟩
  | n + 1 => tends_step (evalF_le n)
theorem evalF_more {f : FuncId} {a : List PV} {H : List Mem} {r : PV × List Mem} {n : Nat} (hr : (evalF P h n).rn f a H = some r) : ∀ k, (evalF P h (n + k)).rn f a H = some r
  | 0 => hr
  | k + 1 => by
    obtain ⟨m, hm⟩ := (evalF_le (P := P) (h := h) (n + k)).rn f a H r (evalF_more hr k)
    exact hm m (Nat.le_refl _)
/-- What the evaluator answers at some depth. -/
theorem lim_of {f : FuncId} {a : List PV} {H : List Mem} {r : PV × List Mem} {n : Nat} (hr : (evalF P h n).rn f a H = some r) : (lim P h).rn f a H = some r := by
  have h1 : Evt fun m => (evalF P h m).rn f a H = some r := ⟨n, fun m hm => by
    obtain ⟨k, rfl⟩ : ∃ k, m = n + k := ⟨m - n, by omega⟩
    exact evalF_more hr k⟩
  have hx : ∃ r, Evt fun m => (evalF P h m).rn f a H = some r := ⟨r, h1⟩
  simp only [lim]
  rw [dif_pos hx]
  exact congrArg some (Evt.det hx.choose_spec h1)
theorem lim_evalF {f : FuncId} {a : List PV} {H : List Mem} {r : PV × List Mem} (hr : (lim P h).rn f a H = some r) : ∃ n, (evalF P h n).rn f a H = some r := by
  obtain ⟨n, h1⟩ := lim_tends.rn f a H r hr
  exact ⟨n, h1 n (Nat.le_refl _)⟩
end
end Go.Am
