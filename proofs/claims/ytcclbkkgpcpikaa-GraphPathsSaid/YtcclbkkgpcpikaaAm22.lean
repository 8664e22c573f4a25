/-
  From "the evaluator answers true" to a law's claim.
-/
import Derived.Test.YtcclbkkgpcpikaaAm21
set_option linter.unusedSimpArgs false
set_option linter.unusedVariables false
namespace Go.Am
open Go.ChangeShapes Go.WideShapes Go.ChangeAt Go.RowKit

def HasArg : Ty → PV → Prop
  | .agg ps, p => ∃ cs, p = .agg cs ∧ HasTys ps cs
  | ty, p => HasTy ty [p]
def HasArgs : List Ty → List PV → Prop
  | [], qs => qs = []
  | t :: ts, qs => ∃ q r, qs = q :: r ∧ HasArg t q ∧ HasArgs ts r

section
variable {H : Type} {enc : TypeId × Value → H} {P : Program} {w : World}

theorem tyOf_scalar {n : Nat} {t : TypeId} {ty : Ty} (h : tyOf P n t = some ty) : (∃ ps, ty = .agg ps ∧ ((∃ fs, P.underlying t = some (.struct fs)) ∨ ∃ k e, P.underlying t = some (.array k e))) ∨ ((∀ ps, ty ≠ .agg ps) ∧ ∀ v r base, Value.okWide P w r base t v → ∀ cs, v ≠ .agg cs) := by
  cases n with
  | zero => simp [tyOf] at h
  | succ n =>
    unfold tyOf at h
    split at h
    · rename_i hu
      cases h
      refine .inr ⟨by simp, fun v r base hv cs => ?_⟩
      rintro rfl
      simp [Value.okWide, hu, Cell.okWide, Cell.ok] at hv
    · rename_i hu
      cases h
      refine .inr ⟨by simp, fun v r base hv cs => ?_⟩
      rintro rfl
      simp [Value.okWide, hu, Cell.okWide, Cell.ok] at hv
    · rename_i hu
      cases h
      refine .inr ⟨by simp, fun v r base hv cs => ?_⟩
      rintro rfl
      simp [Value.okWide, hu, Cell.okWide, Cell.ok] at hv
    · rename_i hu
      obtain ⟨x, _, h⟩ := bind1 h
      obtain ⟨_, h⟩ := if_some h
      cases h
      refine .inr ⟨by simp, fun v r base hv cs => ?_⟩
      rintro rfl
      simp [Value.okWide, hu, Cell.okWide, Cell.ok] at hv
    · obtain ⟨segs, hs, h⟩ := bind1 h
      cases hx : segsTy P (P.cellsOf t) (tyOf P n) segs 0 with
      | none => simp [hx] at h
      | some tys =>
        simp only [hx, Option.map_some, Option.some.injEq] at h
        refine .inl ⟨tys, h.symm, ?_⟩
        unfold segsOf at hs
        split at hs
        · rename_i fs hu; exact .inl ⟨fs, hu⟩
        · rename_i k e hu; exact .inr ⟨k, e, hu⟩
        · cases hs

theorem arg_got {n : Nat} {t : TypeId} {ty : Ty} (hty : tyOf P n t = some ty) {v : Value} {d : DataW H} {ps : List MemPlace} (ht : DataW.Trod enc P w 0 (fun _ => true) true t v d ps) {r : Reach} {base : Nat} (hv : Value.okWide P w r base t v)
    (hps : ∀ x ∈ ps, x.block < w.heap.size) (hl : Lim P t d) : ∃ p, HasArg ty p ∧ IRel w (fun b => b < w.heap.size) p v := by
  obtain ⟨fuel, ht⟩ := ht
  obtain ⟨qs, h1, h2, h3⟩ := trod_got n t ty hty fuel _ d ps ht hps hl
  rcases tyOf_scalar (w := w) hty with ⟨tys, rfl, hu⟩ | ⟨hna, hne⟩
  · have : ∃ cs, v = .agg cs := by
      rcases hu with ⟨fs, hu⟩ | ⟨k, e, hu⟩
      · simp only [Value.okWide, hu] at hv; exact ⟨_, hv.choose_spec.1⟩
      · simp only [Value.okWide, hu] at hv; exact ⟨_, hv.choose_spec.1⟩
    obtain ⟨cs, rfl⟩ := this
    refine ⟨.agg qs, ⟨qs, rfl, by simpa only [HasTy] using h1⟩, ?_⟩
    simp only [IRel]
    exact ⟨cs, rfl, h3, h2⟩
  · have hc : v.cells.toList = [v] := by
      cases v with
      | agg cs => exact absurd rfl (hne _ r base hv cs)
      | _ => rfl
    rw [hc] at h2
    cases qs with
    | nil => simp [LRel] at h2
    | cons q r =>
      simp only [LRel] at h2
      obtain ⟨v', r', h4, h5, h6⟩ := h2
      cases h4
      have hr : r = [] := by
        cases r with
        | nil => rfl
        | cons x y => simp [LRel] at h6
      subst hr
      refine ⟨q, ?_, h5⟩
      cases ty with
      | agg ps => exact absurd rfl (hna ps)
      | _ => exact h1

theorem args_got {n : Nat} {r : Reach} {base : Nat} : ∀ (ts : List TypeId) (vs : List Value) (ds : List (DataW H)) (ps : List MemPlace) (tys : List Ty), DataW.TrodAll enc P w 0 (fun _ => true) true ts vs ds ps → omap (tyOf P n) ts = some tys →
    (∀ (j : Nat) t v, ts[j]? = some t → vs[j]? = some v → Value.okWide P w r base t v) → (∀ x ∈ ps, x.block < w.heap.size) → (∀ (j : Nat) t d, ts[j]? = some t → ds[j]? = some d → Lim P t d) →
    ∃ qs, HasArgs tys qs ∧ LRel w (fun b => b < w.heap.size) qs vs ∧ ds.length = ts.length
  | [], [], [], ps, tys, h, ht, _, _, _ => by
    simp [omap_nil] at ht; subst ht
    exact ⟨[], by simp only [HasArgs], by simp only [LRel], rfl⟩
  | t :: ts, v :: vs, d :: ds, ps, tys, h, ht, hv, hp, hl => by
    obtain ⟨p, q, h1, h2, rfl⟩ := h
    obtain ⟨ty, tys', h3, h4, rfl⟩ := omap_cons_some ht
    obtain ⟨x, h5, h6⟩ := arg_got h3 h1 (hv 0 t v rfl rfl) (fun y hy => hp y (List.mem_append_left _ hy)) (hl 0 t d rfl rfl)
    obtain ⟨qs, h7, h8, h9⟩ := args_got ts vs ds q tys' h2 h4 (fun j t v ht hv' => hv (j + 1) t v (by simpa using ht) (by simpa using hv')) (fun y hy => hp y (List.mem_append_right _ hy)) (fun j t d ht hd => hl (j + 1) t d (by simpa using ht) (by simpa using hd))
    exact ⟨x :: qs, by simp only [HasArgs]; exact ⟨x, qs, rfl, h5, h7⟩, by simp only [LRel]; exact ⟨v, vs, rfl, h6, h8⟩, by simp [h9]⟩
  | [], _ :: _, _, _, _, h, _, _, _, _ => by simp [DataW.TrodAll] at h
  | [], [], _ :: _, _, _, h, _, _, _, _ => by simp [DataW.TrodAll] at h
  | _ :: _, [], _, _, _, h, _, _, _, _ => by simp [DataW.TrodAll] at h
  | _ :: _, _ :: _, [], _, _, h, _, _, _, _ => by simp [DataW.TrodAll] at h

theorem args_below {w' : World} (hl : laidOutB P = true) (hb : Below w.heap.size w w') : ∀ (ts : List TypeId) (vs : List Value) (ds : List (DataW H)) (ps : List MemPlace), DataW.TrodAll enc P w 0 (fun _ => true) true ts vs ds ps →
    (∀ t ∈ ts, P.readableRec t = true ∧ t < P.types.size) → (∀ x ∈ ps, x.block < w.heap.size) → DataW.TrodAll enc P w' 0 (fun b => decide (b < w.heap.size)) true ts vs ds ps
  | [], [], [], ps, h, _, _ => h
  | t :: ts, v :: vs, d :: ds, ps, h, hr, hp => by
    obtain ⟨p, q, h1, h2, rfl⟩ := h
    exact ⟨p, q, Below.trod hl (hr t List.mem_cons_self).1 (hr t List.mem_cons_self).2 h1 hb (fun x hx => hp x (List.mem_append_left _ hx)), args_below hl hb ts vs ds q h2 (fun x hx => hr x (List.mem_cons_of_mem _ hx)) (fun x hx => hp x (List.mem_append_right _ hx)), rfl⟩
  | [], _ :: _, _, _, h, _, _ => by simp [DataW.TrodAll] at h
  | [], [], _ :: _, _, h, _, _ => by simp [DataW.TrodAll] at h
  | _ :: _, [], _, _, h, _, _ => by simp [DataW.TrodAll] at h
  | _ :: _, _ :: _, [], _, h, _, _ => by simp [DataW.TrodAll] at h

/-- A law whose evaluation answers true at every input of its types. -/
theorem law_contract {h : Hints} (hS : Static P h) (hP : PrimSound P h) (laid : laidOutB P = true) {f : FuncId} {fn : Func} {s : ChangeSpec} {tys : List Ty} {tb : TypeId} (hvars : s.vars = []) (hres : fn.resultTypes = #[tb]) (htb : P.underlying tb = some .bool)
    (hread : ∀ t ∈ fn.params.toList, P.readableRec t = true ∧ t < P.types.size) (htys : omap (tyOf P 20) fn.params.toList = some tys)
    (heval : ∀ qs, HasArgs tys qs → ∃ n H', (evalF P h n).rn f qs [] = some (.bool true, H'))
    (hspec : ∀ ds : List (DataW H), ds.length = fn.params.size → s.fn H ds = { results := [.lit (.bool true)], args := ds, vars := [] })
    {W : World} {base : Nat} {args : Array Value} {ds gs : List (DataW H)} {before : List MemPlace} {apart fresh handsOn : Bool}
    (hval : ∀ (j : Nat) t v, fn.params[j]? = some t → args[j]? = some v → Value.okWide P W .any base t v) (hW : DataW.Whole enc P fn.params.toList s.vars apart W args.toList ds gs before)
    (hsz : (DataW.weightsEach P (fn.params.toList ++ s.plain.varTypes P) (ds ++ gs)).all (· ≤ reachBytes) = true) :
    Calls P f args W fun e W' => ∃ v, e = .returned v ∧ s.post enc P fn apart fresh handsOn false W args v W' := by
  have hlt := hW.lt
  have hW' := hW
  obtain ⟨p, q, hA, hV, rfl, _, _⟩ := hW
  rw [hvars] at hV
  obtain ⟨rfl, rfl⟩ := trodVars_none hV
  simp only [List.append_nil] at hsz hlt hW'
  obtain ⟨qs, h1, h2, h3⟩ := args_got fn.params.toList args.toList ds p tys hA htys (fun j t v ht hv => hval j t v (by simpa using ht) (by simpa using hv)) hlt (fun j t d ht hd n hn => by
    have hj : (fn.params.toList ++ s.plain.varTypes P)[j]? = some t := by rw [List.getElem?_append_left (List.getElem?_eq_some_iff.1 ht).1]; exact ht
    have := List.all_eq_true.1 hsz n (DataW.weights_mem_each hj hd n hn)
    simpa using this)
  obtain ⟨n, H', he⟩ := heval qs h1
  have hc := (evalF_sound hS hP n).1.rn f qs [] _ H' he (fun _ => none) (fun b => b < W.heap.size) W W.heap.size args.toList (Inv.empty _ W fun _ hb => hb) (LRel_toV0 h2)
  rw [show args.toList.toArray = args from by simp] at hc
  refine hc.mono ?_
  rintro e W' ⟨u, φ', S', rfl, _, hev, hu⟩
  simp only [VRel] at hu
  subst hu
  have hsp := hspec ds (by simpa using h3)
  refine ⟨_, rfl, ds, [], p, [], p, [], by simpa using hW', ?_, ?_, ?_, hev.below.frame _, fun h => by cases h⟩
  · rw [List.append_nil, hsp, hres]
    exact trodAll_mk1 (shut_bool htb true)
  · rw [List.append_nil, hsp]
    exact args_below laid hev.below _ _ _ _ hA hread hlt
  · rw [hvars, List.append_nil, hsp]; rfl
end
end Go.Am
