/-
  Code by its structure; functions proved otherwise.
-/
import Derived.Test.YtcclbkkgpcpikaaAm25
set_option linter.unusedSimpArgs false
set_option linter.unusedVariables false
namespace Go.Am

section
variable (P : Program) (h : Hints) (E : Ev)

/-- What stands behind a block. -/
noncomputable def blockOut (k : Option (List Nat × Bool)) (id : Nat) (c : Cx) : Ex × St → Option (Ex × St)
  | (.exit j, s') => if j = id then (maskK k c s').map fun s'' => (.normal, s'') else some (.exit j, s')
  | (.normal, s') => (maskK k c s').map fun s'' => (.normal, s'')
  | (.ret, s') => some (.ret, s')
noncomputable def seqOut (f : St → Option (Ex × St)) : Ex × St → Option (Ex × St)
  | (.normal, s') => f s'
  | (.exit j, s') => some (.exit j, s')
  | (.ret, s') => some (.ret, s')
noncomputable def condOut (x y : Option (Ex × St)) : PV → Option (Ex × St)
  | .bool true => x
  | .bool false => y
  | _ => none

/-- The evaluator by the code's structure; loops and calls by E. -/
noncomputable def exS (c : Cx) : Code → St → Option (Ex × St)
  | .skip, s => some (.normal, s)
  | .label _, s => some (.normal, s)
  | .region id ops _, s => (regA P h E c.N (h.light c.fid id) ops s).map fun s' => (.normal, s')
  | .seq a b, s => (exS c a s).bind (seqOut (exS c b))
  | .cond x a b, s => (ev s.tm x).bind (condOut (exS c a s) (exS c b s))
  | .block id b, s => (exS c b s).bind (blockOut (h.keepB c.fid id) id c)
  | .loop b, s => E.ex c (.loop b) s
  | .exit id, s => some (.exit id, s)
  | .ret, s => some (.ret, s)
  | _, _ => none
/-- One round of a loop. -/
noncomputable def roundS (c : Cx) (b : Code) (s : St) : Option (Ex × St) := (maskK (h.keep c.fid (firstReg b)) c s).bind (exS P h E c b)
end

section
variable {P : Program} {h : Hints}
theorem exS_lim (c : Cx) : ∀ (code : Code) (s : St) (r : Ex × St), exS P h (lim P h) c code s = some r → (lim P h).ex c code s = some r
  | .skip, s, r, hr => lim_ex hr
  | .label _, s, r, hr => lim_ex hr
  | .region id ops d, s, r, hr => lim_ex hr
  | .seq a b, s, r, hr => by
    simp only [exS] at hr
    obtain ⟨⟨e, s'⟩, h1, h2⟩ := bind1 hr
    refine lim_ex ?_
    simp only [step, exS_lim c a s _ h1, Option.bind_some]
    cases e with
    | normal => exact exS_lim c b s' _ h2
    | exit j => exact h2
    | ret => exact h2
  | .cond x a b, s, r, hr => by
    simp only [exS] at hr
    obtain ⟨v, h1, h2⟩ := bind1 hr
    refine lim_ex ?_
    simp only [step, h1, Option.bind_some]
    cases v with
    | bool t =>
      cases t with
      | true => exact exS_lim c a s _ h2
      | false => exact exS_lim c b s _ h2
    | _ => cases h2
  | .block id b, s, r, hr => by
    simp only [exS] at hr
    obtain ⟨⟨e, s'⟩, h1, h2⟩ := bind1 hr
    refine lim_ex ?_
    simp only [step, exS_lim c b s _ h1, Option.bind_some]
    cases e with
    | normal => exact h2
    | exit j => exact h2
    | ret => exact h2
  | .loop b, s, r, hr => hr
  | .exit id, s, r, hr => lim_ex hr
  | .ret, s, r, hr => lim_ex hr

/-- A round of a loop that goes on. -/
theorem loop_next {c : Cx} {b : Code} {s s' : St} {r : Ex × St} (h1 : roundS P h (lim P h) c b s = some (.normal, s')) (h2 : (lim P h).ex c (.loop b) s' = some r) : (lim P h).ex c (.loop b) s = some r := by
  unfold roundS at h1
  obtain ⟨s0, h0, h1⟩ := bind1 h1
  refine lim_ex ?_
  simp only [step, h0, Option.bind_some, exS_lim c b s0 _ h1]
  exact h2
/-- A round of a loop that ends it. -/
theorem loop_done {c : Cx} {b : Code} {s s' : St} {e : Ex} (he : e ≠ .normal) (h1 : roundS P h (lim P h) c b s = some (e, s')) : (lim P h).ex c (.loop b) s = some (e, s') := by
  unfold roundS at h1
  obtain ⟨s0, h0, h1⟩ := bind1 h1
  refine lim_ex ?_
  simp only [step, h0, Option.bind_some, exS_lim c b s0 _ h1]

/-- What a function's end gives. -/
noncomputable def finS (P : Program) (rs : List ResultVar) : Ex × St → Option (PV × List Mem)
  | (.exit _, _) => none
  | (_, s) => (omap (resOf P s.tm s.hp) rs).map fun vs => (oneOrTup vs, s.hp)

theorem rn_lim {f : FuncId} {fn : Func} {code : Code} {args : List PV} {H : List Mem} {r : PV × List Mem} (hok : h.ok f = true) (hf : P.funcs[f]? = some fn) (hb : fn.body = some code) (hn : args.length ≤ fn.ntmps)
    (hr : (exS P h (lim P h) ⟨f, H.length, fn.ntmps⟩ code ⟨enterT 0 args, H⟩).bind (finS P fn.results.toList) = some r) : (lim P h).rn f args H = some r := by
  obtain ⟨⟨e, s⟩, h1, h2⟩ := bind1 hr
  refine lim_rn ?_
  simp only [step, hok, if_true, hf, hb, hn, exS_lim _ _ _ _ h1, Option.bind_some]
  cases e with
  | normal => exact h2
  | exit j => cases h2
  | ret => exact h2

/-! functions proved otherwise: facts -/
noncomputable def factOf (qs : List PV) : Option PV := match qs with | [] => some (.bool true) | _ => none
noncomputable def withFacts (h : Hints) (l : List FuncId) : Hints := { h with prim := fun f => if has f l then some factOf else none }

theorem firstW_facts (l : List FuncId) (ls : List Nat) : ∀ (os : List Oper) (i : Nat), firstW (withFacts h l) ls os i = firstW h ls os i
  | [], _ => rfl
  | o :: os, i => by
    simp only [firstW, firstW_facts l ls os]
    rfl
theorem drawOk_facts (l : List FuncId) (ls : List Nat) (ops : Array Oper) : drawOk (withFacts h l) ls ops = drawOk h ls ops := by
  simp only [drawOk, firstW_facts]
theorem codeOk_facts (l : List FuncId) (f : FuncId) : ∀ c : Code, codeOk (withFacts h l) f c = codeOk h f c
  | .region _ _ _ => by simp only [codeOk, drawOk_facts]; rfl
  | .seq a b => by simp only [codeOk, codeOk_facts l f a, codeOk_facts l f b]
  | .cond _ a b => by simp only [codeOk, codeOk_facts l f a, codeOk_facts l f b]
  | .block _ b => by simp only [codeOk, codeOk_facts l f b]
  | .loop b => by simp only [codeOk, codeOk_facts l f b]
  | .skip | .label _ | .exit _ | .ret | .goto _ | .refuse _ | .rangeFunc _ _ _ _ | .scope _ => rfl
theorem fnChk_facts (l : List FuncId) (f : FuncId) : fnChk P (withFacts h l) f = fnChk P h f := by
  simp only [fnChk, codeOk_facts]
theorem facts_static {l : List FuncId} (hS : Static P h) (hP : PrimSound P h) (hl : ∀ f ∈ l, ∃ n r, (evalF P h n).rn f [] [] = some r) : Static P (withFacts h l) :=
  ⟨hS.mixed, fun f hf => by rw [fnChk_facts]; exact hS.fns f hf, fun f hf => by
    simp only [withFacts] at hf
    split at hf
    · rename_i hm
      obtain ⟨n, r, hr⟩ := hl f (has_mem hm)
      exact (evalF_sound hS hP n).1.fnOk f (.inl ⟨_, _, r, hr⟩)
    · cases hf⟩
theorem facts_prims {l : List FuncId} (hS : Static P h) (hP : PrimSound P h) (hl : ∀ f ∈ l, ∃ n, saysTrue ((evalF P h n).rn f [] []) = true) : PrimSound P (withFacts h l) := by
  intro f g hf qs v hg S w vals hs hv
  simp only [withFacts] at hf
  split at hf
  · rename_i hm
    cases hf
    obtain ⟨n, hn⟩ := hl f (has_mem hm)
    cases qs with
    | cons _ _ => cases hg
    | nil =>
      cases hg
      obtain ⟨H', hr⟩ : ∃ H', (evalF P h n).rn f [] [] = some (.bool true, H') := by
        unfold saysTrue at hn
        split at hn
        · rename_i H' he; exact ⟨H', he⟩
        · cases hn
      refine ((evalF_sound hS hP n).1.rn f [] [] _ H' hr _ S w w.heap.size vals (Inv.empty _ w hs) (LRel_toV0 hv)).mono ?_
      rintro e w' ⟨u, φ', S', rfl, _, hev, hvr⟩
      refine ⟨u, rfl, hev.below, ?_⟩
      simp only [VRel] at hvr
      simp only [IRel]
      exact hvr
  · cases hf
theorem saysTrue_some {r : Option (PV × List Mem)} (h : saysTrue r = true) : ∃ x, r = some x := by
  unfold saysTrue at h
  split at h
  · exact ⟨_, rfl⟩
  · cases h
end
end Go.Am
