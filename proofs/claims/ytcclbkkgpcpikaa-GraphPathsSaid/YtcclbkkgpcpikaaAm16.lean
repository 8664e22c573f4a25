/-
  Regions that draw the order of their operations: the check of a region, what an operation looks at.
-/
import Derived.Test.YtcclbkkgpcpikaaAm15
import Derived.Orders
set_option linter.unusedSimpArgs false
set_option linter.unusedVariables false
namespace Go.Am
open Go.RowKit

/-! the check -/
noncomputable def maskOf (acc : List Nat) (o : Oper) : Nat :=
  o.after.toList.foldr (fun e s => bif Region.binds .any e then (s ||| 2 ^ e.on) ||| acc.getD e.on 0 else s) 0
noncomputable def masks : List Oper → List Nat → List Nat
  | [], acc => acc
  | o :: r, acc => masks r (acc ++ [maskOf acc o])
noncomputable def firstW (h : Hints) (ls : List Nat) : List Oper → Nat → Nat
  | [], i => i
  | o :: r, i => bif !has i ls && isW h o then i else firstW h ls r (i + 1)
noncomputable def pairOk (ls : List Nat) (ops : Array Oper) (k : Nat) (ms : List Nat) (i j : Nat) : Bool :=
  Nat.testBit (ms.getD j 0) i || match ops[i]?, ops[j]? with
  | some x, some y => x.apart ops y && (has i ls || has j ls || decide (j < k))
  | _, _ => true
noncomputable def edgesOk (ops : Array Oper) (j : Nat) : Bool :=
  match ops[j]? with
  | some o => o.after.toList.all fun e => !Region.binds .any e || decide (e.on < j)
  | none => true
noncomputable def drawOk (h : Hints) (ls : List Nat) (ops : Array Oper) : Bool :=
  let ms := masks ops.toList []
  let k := firstW h ls ops.toList 0
  ((List.range ops.size).all fun j => edgesOk ops j && (List.range j).all fun i => pairOk ls ops k ms i j) && ls.all fun i => Nat.blt i k

/-- A set of operations with all that they wait for. -/
def Closed (ops : Array Oper) (D : Nat → Bool) : Prop := ∀ j o, ops[j]? = some o → D j = true → ∀ e ∈ o.after, Region.binds .any e = true → D e.on = true

theorem maskOf_spec {acc : List Nat} {o : Oper} {i : Nat} : Nat.testBit (maskOf acc o) i = true → ∃ e ∈ o.after, Region.binds .any e = true ∧ (i = e.on ∨ Nat.testBit (acc.getD e.on 0) i = true) := by
  unfold maskOf
  have gen : ∀ l : List Edge, Nat.testBit (l.foldr (fun e s => bif Region.binds .any e then (s ||| 2 ^ e.on) ||| acc.getD e.on 0 else s) 0) i = true → ∃ e ∈ l, Region.binds .any e = true ∧ (i = e.on ∨ Nat.testBit (acc.getD e.on 0) i = true) := by
    intro l
    induction l with
    | nil => intro h; simp at h
    | cons e l ih =>
      intro h
      rw [List.foldr_cons] at h
      cases hb : Region.binds .any e with
      | false =>
        rw [hb] at h
        obtain ⟨e', h1, h2⟩ := ih h
        exact ⟨e', List.mem_cons_of_mem _ h1, h2⟩
      | true =>
        rw [hb, cond_true, Nat.testBit_or, Nat.testBit_or] at h
        simp only [Bool.or_eq_true] at h
        rcases h with (h | h) | h
        · obtain ⟨e', h1, h2⟩ := ih h
          exact ⟨e', List.mem_cons_of_mem _ h1, h2⟩
        · rw [Nat.testBit_two_pow] at h
          exact ⟨e, List.mem_cons_self, hb, .inl (by simpa using (of_decide_eq_true h).symm)⟩
        · exact ⟨e, List.mem_cons_self, hb, .inr h⟩
  intro h
  obtain ⟨e, h1, h2⟩ := gen _ h
  exact ⟨e, by simpa using h1, h2⟩

theorem masks_closed {ops : Array Oper} {D : Nat → Bool} (hD : Closed ops D) : ∀ (l : List Oper) (acc : List Nat), ops.toList.drop acc.length = l →
    (∀ j i, D j = true → Nat.testBit (acc.getD j 0) i = true → D i = true) → ∀ j i, D j = true → Nat.testBit ((masks l acc).getD j 0) i = true → D i = true
  | [], acc, _, ha => ha
  | o :: r, acc, hl, ha => by
    have hlt : acc.length < ops.size := by
      rcases Nat.lt_or_ge acc.length ops.size with h | h
      · exact h
      · rw [List.drop_eq_nil_of_le (by simpa using h)] at hl; cases hl
    have ho : ops[acc.length]? = some o := by
      have : (ops.toList.drop acc.length)[0]? = some o := by rw [hl]; rfl
      rw [List.getElem?_drop] at this
      simpa using this
    refine masks_closed hD r (acc ++ [maskOf acc o]) (by rw [List.length_append, ← List.drop_drop, hl]; rfl) ?_
    intro j i hj hi
    rcases Nat.lt_trichotomy j acc.length with h | h | h
    · rw [List.getD_eq_getElem?_getD, List.getElem?_append_left h, ← List.getD_eq_getElem?_getD] at hi
      exact ha j i hj hi
    · subst h
      rw [List.getD_eq_getElem?_getD, List.getElem?_append_right (Nat.le_refl _)] at hi
      simp only [Nat.sub_self, List.getElem?_cons_zero, Option.getD_some] at hi
      obtain ⟨e, he, hb, h⟩ := maskOf_spec hi
      have hde := hD _ o ho hj e he hb
      rcases h with rfl | h
      · exact hde
      · exact ha e.on i hde h
    · rw [List.getD_eq_getElem?_getD, List.getElem?_eq_none (by simp; omega)] at hi
      simp at hi

theorem firstW_spec (h : Hints) (ls : List Nat) : ∀ (l : List Oper) (i : Nat), i ≤ firstW h ls l i ∧ firstW h ls l i ≤ i + l.length ∧ ∀ j o, l[j]? = some o → i + j < firstW h ls l i → has (i + j) ls = false → isW h o = false
  | [], i => ⟨Nat.le_refl _, Nat.le_refl _, by simp⟩
  | o :: r, i => by
    simp only [firstW]
    cases hc : (!has i ls && isW h o) with
    | true =>
      refine ⟨Nat.le_refl _, by simp, ?_⟩
      intro j x _ hlt
      simp only [cond_true] at hlt
      omega
    | false =>
      obtain ⟨h1, h2, h3⟩ := firstW_spec h ls r (i + 1)
      refine ⟨by simp only [cond_false]; omega, by simp only [cond_false, List.length_cons]; omega, ?_⟩
      intro j x hx hlt hno
      cases j with
      | zero =>
        simp at hx; subst hx
        simp only [Nat.add_zero] at hno
        simpa [hno] using hc
      | succ j =>
        simp only [cond_false] at hlt
        exact h3 j x (by simpa using hx) (by omega) (by rw [show i + 1 + j = i + (j + 1) from by omega]; exact hno)

theorem drawOk_spec {h : Hints} {ls : List Nat} {ops : Array Oper} (hd : drawOk h ls ops = true) :
    (∀ j o, ops[j]? = some o → ∀ e ∈ o.after, Region.binds .any e = true → e.on < j) ∧
    ∀ D, Closed ops D → ∀ i j x y, i < j → ops[i]? = some x → ops[j]? = some y → D j = true → D i = true ∨ (x.apart ops y = true ∧ (has i ls = true ∨ has j ls = true ∨ j < firstW h ls ops.toList 0)) := by
  unfold drawOk at hd
  simp only [List.all_eq_true, List.mem_range, Bool.and_eq_true] at hd
  obtain ⟨hd, _⟩ := hd
  refine ⟨?_, ?_⟩
  · intro j o ho e he hb
    have hlt := (Array.getElem?_eq_some_iff.1 ho).1
    have h1 := (hd j hlt).1
    unfold edgesOk at h1
    simp only [ho, List.all_eq_true, Bool.or_eq_true] at h1
    have := h1 e (by simpa using he)
    simpa [hb] using this
  · intro D hD i j x y hij hx hy hj
    have hlt := (Array.getElem?_eq_some_iff.1 hy).1
    have h1 := (hd j hlt).2 i hij
    unfold pairOk at h1
    simp only [hx, hy, Bool.or_eq_true, Bool.and_eq_true, decide_eq_true_eq] at h1
    rcases h1 with h1 | ⟨h1, h2⟩
    · exact .inl (masks_closed hD ops.toList [] (by simp) (by intro j i _ h; simp at h) j i hj h1)
    · exact .inr ⟨h1, by rcases h2 with (h2 | h2) | h2 <;> simp [h2]⟩

theorem has_mem {i : Nat} : ∀ {ls : List Nat}, has i ls = true → i ∈ ls
  | [], h => by cases h
  | j :: l, h => by
    have h' : (bif Nat.beq i j then true else has i l) = true := h
    cases hb : Nat.beq i j with
    | true => rw [Nat.eq_of_beq_eq_true hb]; exact List.mem_cons_self
    | false => rw [hb, cond_false] at h'; exact List.mem_cons_of_mem _ (has_mem h')
theorem drawOk_light {h : Hints} {ls : List Nat} {ops : Array Oper} (hd : drawOk h ls ops = true) {i : Nat} (hi : has i ls = true) : i < firstW h ls ops.toList 0 := by
  unfold drawOk at hd
  simp only [Bool.and_eq_true, List.all_eq_true (l := ls)] at hd
  have := hd.2 i (has_mem hi)
  exact Nat.le_of_ble_eq_true this

/-! what an operation looks at -/
section
variable {P : Program} {h : Hints} {E : Ev} {H : List Mem} {o : Oper} {ρ ρ' : Operand → Option PV}
theorem omap_congr {α β : Type} {f g : α → Option β} : ∀ {l : List α}, (∀ x ∈ l, f x = g x) → omap f l = omap g l
  | [], _ => rfl
  | x :: l, h => by rw [omap_cons, omap_cons, h x List.mem_cons_self, omap_congr fun y hy => h y (List.mem_cons_of_mem _ hy)]
theorem partsOf_congr {parts : Array (Nat × Operand)} (hρ : ∀ x ∈ parts, ρ x.2 = ρ' x.2) : partsOf ρ parts = partsOf ρ' parts := by
  unfold partsOf
  exact omap_congr fun x hx => by rw [hρ x (by simpa using hx)]
theorem opR_congr {base : Nat} (hρ : ∀ x ∈ o.op.operands, ρ x = ρ' x) : opR P h E H base ρ o = opR P h E H base ρ' o := by
  obtain ⟨dst, op, type, pos, after, guard⟩ := o
  cases op <;> simp only [Op.operands, Array.mem_def] at hρ <;> simp only [opR]
  case build t ps => unfold aBuild; rw [partsOf_congr fun x hx => hρ _ (by simp; exact ⟨x.1, hx⟩)]
  case buildSlice t n ps => unfold aBuildSlice; rw [partsOf_congr fun x hx => hρ _ (by simp; exact ⟨x.1, hx⟩)]
  case makeFunc fn first caps =>
    unfold aFunc
    rw [omap_congr (l := first.toList) fun x hx => hρ x (by simp at hx ⊢; exact .inl hx), omap_congr (l := caps.toList) fun x hx => hρ x (by simp at hx ⊢; exact .inr hx)]
  case slice t x lo hi mx =>
    unfold aSlice
    have one : ∀ y : Option Operand, (∀ z, y = some z → ρ z = ρ' z) → aOpt ρ y = aOpt ρ' y := fun y hy => by cases y <;> simp [aOpt]; rw [hy _ rfl]
    rw [hρ x (by simp), one lo fun z hz => hρ z (by simp [hz]), one hi fun z hz => hρ z (by simp [hz]), one mx fun z hz => hρ z (by simp [hz])]
  case call c =>
    unfold aCallR
    have hargs : omap ρ c.args.toList = omap ρ' c.args.toList := omap_congr fun x hx => hρ x (by simp [Call.operands]; exact .inr (by simpa using hx))
    cases hc : c.callee with
    | builtin b => simp only [aBuiltinR, hargs]
    | value x => cases x <;> simp only [aCallC, hargs]
    | invoke _ _ => rfl
  case pick c x y => unfold aPick; rw [hρ c (by simp), hρ x (by simp), hρ y (by simp)]
  case move x => rw [hρ x (by simp)]
  case assign x => rw [hρ x (by simp)]
  case box t x => rw [hρ x (by simp)]
  case load t x => rw [hρ x (by simp)]
  case nilCheck x => rw [hρ x (by simp)]
  case unOp op t x => rw [hρ x (by simp)]
  case convert s d x => rw [hρ x (by simp)]
  case fieldAddr s x f => rw [hρ x (by simp)]
  case field s x f => rw [hρ x (by simp)]
  case extract x i => rw [hρ x (by simp)]
  case binOp op t x y yt => rw [hρ x (by simp), hρ y (by simp)]
  case makeSlice t x y => rw [hρ x (by simp), hρ y (by simp)]
  case indexAddr t x y => rw [hρ x (by simp), hρ y (by simp)]
  case index t x y => rw [hρ x (by simp), hρ y (by simp)]
  case lookup t x y ok => rw [hρ x (by simp), hρ y (by simp)]
theorem opW_congr (hρ : ∀ x ∈ o.op.operands, ρ x = ρ' x) : opW P h E H ρ o = opW P h E H ρ' o := by
  obtain ⟨dst, op, type, pos, after, guard⟩ := o
  cases op <;> simp only [Op.operands, Array.mem_def] at hρ <;> simp only [opW]
  case store t x y => rw [hρ x (by simp), hρ y (by simp)]
  case mapUpdate t m k x => rw [hρ m (by simp), hρ k (by simp), hρ x (by simp)]
  case insert t m k x => rw [hρ m (by simp), hρ k (by simp), hρ x (by simp)]
  case call c =>
    unfold wCall
    have hargs : omap ρ c.args.toList = omap ρ' c.args.toList := omap_congr fun x hx => hρ x (by simp [Call.operands]; exact .inr (by simpa using hx))
    cases hc : c.callee with
    | builtin b => cases b <;> simp only [wBuiltin, wAppend, wCopy, wClear, hargs]
    | value x =>
      have hx : ρ x = ρ' x := hρ x (by simp [Call.operands, hc])
      cases x <;> simp only [wOpen, wDyn, hargs, hx]
    | invoke _ _ => rfl
theorem opA_congr (hρ : ∀ x ∈ o.op.operands, ρ x = ρ' x) : opA P h E H ρ o = opA P h E H ρ' o := by
  cases hw : isW h o with
  | true => rw [opA_W hw, opA_W hw]; exact opW_congr hρ
  | false => rw [opA_R hw, opA_R hw, opR_congr hρ]
theorem lightOp_congr (hρ : ∀ x ∈ o.op.operands, ρ x = ρ' x) : lightOp P h E H ρ o = lightOp P h E H ρ' o := by
  unfold lightOp; rw [opR_congr hρ]

variable {ops : Array Oper} {tm tm' : List (Nat × PV)}
theorem ev_looks (hl : ∀ t ∈ o.looksAt ops, get tm t = get tm' t) : ∀ x ∈ o.op.operands, ev tm x = ev tm' x := by
  intro x hx
  cases x <;> simp only [ev]
  rename_i t
  exact hl t (List.mem_append_left _ (List.mem_filterMap.2 ⟨.tmp t, by simpa using hx, rfl⟩))
theorem wants_looks (hl : ∀ t ∈ o.looksAt ops, get tm t = get tm' t) : wants ops tm o = wants ops tm' o := by
  unfold wants
  cases hg : o.guard with
  | none => rfl
  | some jw =>
    obtain ⟨j, want⟩ := jw
    simp only []
    cases hd : (ops[j]?).bind (·.dst) with
    | none => rfl
    | some d => simp only [Option.bind_some, hl d (by simp [Oper.looksAt, hg, hd])]

/-- What is frozen was there before. -/
theorem opR_fz {base : Nat} {v : PV} {ms : List Mem} {fz : List Nat} (ho : opR P h E H base ρ o = some (v, ms, fz)) : ∀ id ∈ fz, id < H.length := by
  unfold opR at ho
  have hval : ∀ {x : Option PV}, val x = some (v, ms, fz) → ∀ id ∈ fz, id < H.length := fun hx => by
    obtain ⟨_, _, rfl⟩ := val_spec hx; simp
  have hmap : ∀ {α : Type} {x : Option α} {f : α → PV} {g : α → List Mem}, x.map (fun a => (f a, g a, ([] : List Nat))) = some (v, ms, fz) → ∀ id ∈ fz, id < H.length := fun {α x f g} hx => by
    cases x with
    | none => simp at hx
    | some a => simp at hx; obtain ⟨_, _, rfl⟩ := hx; simp
  split at ho <;> try exact hval ho
  · exact hmap ho
  · exact hmap ho
  · unfold aBuildSlice at ho
    obtain ⟨ps, _, ho⟩ := bind1 ho
    exact hmap ho
  · unfold aMakeMap at ho
    split at ho
    · exact hmap ho
    · cases ho
  · unfold aMakeSlice at ho
    obtain ⟨l, _, ho⟩ := bind1 ho
    obtain ⟨c, _, ho⟩ := bind1 ho
    exact hmap ho
  · unfold aCallR at ho
    split at ho
    · exact hval ho
    · unfold aCallC at ho
      obtain ⟨_, ho⟩ := if_none ho
      obtain ⟨vs, _, ho⟩ := bind1 ho
      unfold callC at ho
      obtain ⟨qs, _, ho⟩ := bind1 ho
      cases himp : h.imp _ with
      | true =>
        rw [himp, cond_true] at ho
        unfold impC at ho
        cases hr : impCall E _ qs base with
        | none => rw [hr] at ho; cases ho
        | some r =>
          rw [hr] at ho
          simp only [Option.map_some, Option.some.injEq, Prod.mk.injEq] at ho
          intro id hid
          rw [← ho.2.2] at hid
          cases hf : r.2.2 with
          | true => rw [hf] at hid; simp at hid
          | false =>
            rw [hf, cond_false] at hid
            obtain ⟨x, _, hx⟩ := List.mem_flatMap.1 hid
            exact rch_lt _ _ _ hx
      | false =>
      rw [himp, cond_false] at ho
      unfold pureC at ho
      obtain ⟨q, _, ho⟩ := bind1 ho
      split at ho
      · cases ho
        intro id hid
        obtain ⟨x, _, hx⟩ := List.mem_flatMap.1 hid
        exact rch_lt _ _ _ hx
      · obtain ⟨_, ho⟩ := if_some ho
        cases ho; simp
    · cases ho
  · cases ho
end
end Go.Am
