/-
  An operation that does not write: its law.
-/
import Derived.Test.YtcclbkkgpcpikaaAm9
set_option linter.unusedSimpArgs false
set_option linter.unusedVariables false
namespace Go.Am
open Go.RowKit

structure Good (P : Program) (h : Hints) (E : Ev) : Prop where
  rn : RnSound P E
  prim : PrimSound P h
  len : ∀ f args H v H', E.rn f args H = some (v, H') → H.length ≤ H'.length
  fnOk : ∀ f, (∃ args H r, E.rn f args H = some r) ∨ (h.prim f).isSome = true → FnOk P f

/-- The same row, be it writable or not. -/
def simM : Mem → Mem → Prop
  | .row es z _, .row es' z' _ => es = es' ∧ z = z'
  | .map es, .map es' => es = es'
  | .dead, .dead => True
  | _, _ => False
theorem simM.refl (m : Mem) : simM m m := by cases m <;> simp [simM]

section
variable {P : Program} {h : Hints} {E : Ev} {w : World} {φ : Phi} {S : Nat → Prop} {B : Nat} {H : List Mem} {tm : List (Nat × PV)} {N : Nat} {o : Oper} {a : Act} {K : Act → World → Prop} {Q : Exit → Act → World → Prop}

theorem pureCall_ok (hG : Good P h E) {f : FuncId} {qs : List PV} {q : PV} (hc : pureCall h E f qs = some q) : FnOk P f := by
  unfold pureCall at hc
  cases hp : h.prim f with
  | some g => exact hG.fnOk f (.inr (by simp [hp]))
  | none =>
    simp only [hp] at hc
    cases hr : E.rn f qs [] with
    | none => simp [hr] at hc
    | some r => exact hG.fnOk f (.inl ⟨_, _, _, hr⟩)
theorem callC_ok (hG : Good P h E) {f : FuncId} {args : List PV} {base : Nat} {r : PV × List Mem × List Nat} (hc : callC h E f args H base = some r) : FnOk P f := by
  unfold callC at hc
  cases hq : omap (exp expFuel H) args with
  | none => simp [hq] at hc
  | some qs =>
    simp only [hq, Option.bind_some] at hc
    cases himp : h.imp f with
    | true =>
      rw [himp, cond_true] at hc
      unfold impC impCall at hc
      cases hg : E.rn f qs [] with
      | none => simp [hg] at hc
      | some r => exact hG.fnOk f (.inl ⟨_, _, _, hg⟩)
    | false =>
      rw [himp, cond_false] at hc
      unfold pureC at hc
      cases hr : pureCall h E f qs with
      | none => simp [hr] at hc
      | some q => exact pureCall_ok hG hr

theorem ofold_min : ∀ (l : List PV) (x p : PV) (vs : List Value) (v : Value), ofold min2 l x = some p → VL φ w S l vs → VRel φ w S x v → ∃ u, (vs.foldlM Builtin.min2 v).run P w = .ok u w ∧ VRel φ w S p u
  | [], x, p, vs, v, h, hv, hx => by
    simp [ofold] at h; subst h
    simp only [VL] at hv; subst hv
    exact ⟨v, rfl, hx⟩
  | y :: l, x, p, vs, v, h, hv, hx => by
    simp only [ofold] at h
    cases h1 : min2 x y with
    | none => simp [h1] at h
    | some z =>
      simp only [h1, Option.bind_some] at h
      simp only [VL] at hv
      obtain ⟨u, r, rfl, hu, hr⟩ := hv
      unfold min2 at h1
      split at h1
      · rename_i k a k' b
        obtain ⟨hk, h1'⟩ := if_some h1
        subst hk
        cases h1'
        simp only [VRel] at hx hu
        subst hx; subst hu
        obtain ⟨u, h2, h3⟩ := ofold_min l _ p r (.int k (if b < a then b else a)) h hr (VRel_int _ _)
        exact ⟨u, by simp [Builtin.min2, h2], h3⟩
      · cases h1
theorem ofold_max : ∀ (l : List PV) (x p : PV) (vs : List Value) (v : Value), ofold max2 l x = some p → VL φ w S l vs → VRel φ w S x v → ∃ u, (vs.foldlM Builtin.max2 v).run P w = .ok u w ∧ VRel φ w S p u
  | [], x, p, vs, v, h, hv, hx => by
    simp [ofold] at h; subst h
    simp only [VL] at hv; subst hv
    exact ⟨v, rfl, hx⟩
  | y :: l, x, p, vs, v, h, hv, hx => by
    simp only [ofold] at h
    cases h1 : max2 x y with
    | none => simp [h1] at h
    | some z =>
      simp only [h1, Option.bind_some] at h
      simp only [VL] at hv
      obtain ⟨u, r, rfl, hu, hr⟩ := hv
      unfold max2 at h1
      split at h1
      · rename_i k a k' b
        obtain ⟨hk, h1'⟩ := if_some h1
        subst hk
        cases h1'
        simp only [VRel] at hx hu
        subst hx; subst hu
        obtain ⟨u, h2, h3⟩ := ofold_max l _ p r (.int k (if b > a then b else a)) h hr (VRel_int _ _)
        exact ⟨u, by simp [Builtin.max2, h2], h3⟩
      · cases h1

theorem builtinR_sound (hI : Inv φ H w S B) {b : Builtin} {ts : Array TypeId} {ty : TypeId} {cs : Array Bool} {vs : List PV} {p : PV} {us : List Value} (hb : builtinR P H b ts vs = some p) (hv : VL φ w S vs us) :
    ∃ u, (builtin b ts ty cs us.toArray).run P w = .ok (.value u) w ∧ VRel φ w S p u := by
  unfold builtinR at hb
  split at hb
  · rename_i x
    simp only [VL] at hv
    obtain ⟨u, r, rfl, hu, rfl⟩ := hv
    cases ht : ts[0]? with
    | none => simp [ht] at hb
    | some t =>
      simp only [ht, Option.bind_some] at hb
      obtain ⟨v, h1, h2⟩ := lenPV_sound (P := P) (ts := ts) (ty := ty) hI ht hb hu
      exact ⟨v, by simp [builtin, h1], h2⟩
  · rename_i x r
    simp only [VL] at hv
    obtain ⟨u, r', rfl, hu, hr⟩ := hv
    obtain ⟨v, h1, h2⟩ := ofold_min (P := P) r x p r' u hb hr hu
    exact ⟨v, by simp [builtin, Builtin.min_, h1], h2⟩
  · rename_i x r
    simp only [VL] at hv
    obtain ⟨u, r', rfl, hu, hr⟩ := hv
    obtain ⟨v, h1, h2⟩ := ofold_max (P := P) r x p r' u hb hr hu
    exact ⟨v, by simp [builtin, Builtin.max_, h1], h2⟩
  · cases hb

theorem FrzM.sim {m m' : Mem} (h : FrzM m m') : simM m m' := by
  rcases h with rfl | ⟨es, z, b, rfl, rfl⟩
  · exact simM.refl _
  · simp [simM]
theorem opR_wp (hG : Good P h E) {Hs : List Mem} {base : Nat} {v : PV} {ms : List Mem} {fz : List Nat} (hI : Inv φ Hs w S B) (ht : TRel φ w S N tm a) (hop : opR P h E Hs base (ev tm) o = some (v, ms, fz)) (hms : NewAt Hs φ base ms)
    (hfz : ∀ id ∈ fz, ∀ l es z m, φ id = some l → Hs[id]? = some (.row es z m) → S l.b)
    (hK : ∀ u w' φ' S', Inv φ' Hs w' S' B → Evo Hs.length B φ S w φ' S' w' → VRel φ' w' S' v u → (∀ i, ¬ (base ≤ i ∧ i < base + ms.length) → φ' i = φ i) → K (a.put o.dst u) w') : o.wp P a w K Q := by
  -- a value that is only reckoned or read
  have same : ∀ {u : Value}, (execOp a.eval o).run P w = .ok (.value u) w → VRel φ w S v u → o.wp P a w K Q := fun hr hv =>
    wp_of_run hr (hK _ w φ S hI (Evo.refl _ _ _ _ _) hv (fun _ _ => rfl))
  have rdv : ∀ {x : Option PV} {s : Sem Value}, val x = some (v, ms, fz) → execOp a.eval o = (do pure (Next.value (← s)) : Sem Next) → (∀ p, x = some p → ∃ u, s.run P w = .ok u w ∧ VRel φ w S p u) → o.wp P a w K Q := by
    intro x s hx he hs
    obtain ⟨hx, _, _⟩ := val_spec hx
    obtain ⟨u, h1, h2⟩ := hs v hx
    exact same (by rw [he]; exact run_v h1) h2
  -- a new row
  have newRow : ∀ {es : List (List PV)} {z : Nat} {cur : Array Value} {e : TypeId} {u : Value} {vs : List Value}, ms = [Mem.row es z true] → (execOp a.eval o).run P w = .ok (.value u) (w.alloc (.cells cur e)) → (∀ c ∈ es, c.length = z) → VL φ w S es.flatten vs →
      (∀ c ∈ es.flatten, oneP c = true) → (∀ (j : Nat) (x : Value), vs[j]? = some x → cur[j]? = some x) → es.length * z ≤ cur.size →
      (∀ φ' S', φ' base = some ⟨w.heap.size, 0, z, cur.size⟩ → VRel φ' (w.alloc (.cells cur e)) S' v u) → o.wp P a w K Q := by
    intro es z cur e u vs hm hr hw hv h1 hc htop hval
    subst hm
    obtain ⟨m', hm', hfz0, hφ⟩ := hms 0 _ rfl
    have hsim := hfz0.sim
    simp only [Nat.add_zero] at hm' hφ
    cases m' with
    | row es' z' b =>
      simp only [simM] at hsim
      obtain ⟨rfl, rfl⟩ := hsim
      obtain ⟨φ', S', h2, h3, h4, h5⟩ := hI.add (fz := (0, 0)) (below_alloc w _) hφ hm' (heap_alloc_at w _) hw hv h1 hc htop (by intro j hj; simp)
      refine wp_of_run hr (hK _ _ φ' S' h2 h3 (hval φ' S' h4) ?_)
      intro i hi
      exact h5 i (by rintro rfl; exact hi ⟨Nat.le_refl _, by simp⟩)
    | map _ => simp [simM] at hsim
    | dead => simp [simM] at hsim
  unfold opR at hop
  cases ho : o.op with
  | move x =>
    simp only [ho] at hop
    obtain ⟨hx, _, _⟩ := val_spec hop
    exact same (by simp [execOp, ho]) (ev_sound ht hx)
  | assign x =>
    simp only [ho] at hop
    obtain ⟨hx, _, _⟩ := val_spec hop
    exact same (by simp [execOp, ho]) (ev_sound ht hx)
  | pick c x y =>
    simp only [ho] at hop
    obtain ⟨hx, _, _⟩ := val_spec hop
    unfold aPick at hx
    obtain ⟨t, h1, h2⟩ := bind1 hx
    cases t <;> simp only [] at h2 <;> try (cases h2; done)
    rename_i b
    have hb := ev_sound ht h1
    simp only [VRel] at hb
    cases b
    · exact same (by simp [execOp, ho, hb, asBool]) (ev_sound ht h2)
    · exact same (by simp [execOp, ho, hb, asBool]) (ev_sound ht h2)
  | alloc t =>
    simp only [ho, aAlloc] at hop
    cases hz : zcells P t with
    | none => simp [hz] at hop
    | some cs =>
      simp only [hz, Option.map_some, Option.some.injEq, Prod.mk.injEq] at hop
      obtain ⟨rfl, rfl, rfl⟩ := hop
      obtain ⟨i, zv, hi, hzi, hv, h1⟩ := zcells_sound (w := w) (φ := φ) (S := S) hz
      refine newRow rfl (u := .pointer (some ⟨w.heap.size, 0, none⟩)) (cur := zv.cells) (e := t) (vs := zv.cells.toList) ?_ (by simp) (by simpa using hv) (by simpa using h1) (by simp) (by have := VL.length hv; simp at this ⊢; omega) ?_
      · simp [execOp, ho, Instr.alloc, zeroValue, typeInfo, hi, hzi, newVar, Go.newRow]
      · intro φ' S' hφ; simp only [VRel]; exact ⟨_, hφ, by simp⟩
  | box t x =>
    simp only [ho, aBox] at hop
    cases hz : (ev tm x).bind noTup with
    | none => simp [hz] at hop
    | some p =>
      simp only [hz, Option.map_some, Option.some.injEq, Prod.mk.injEq] at hop
      obtain ⟨rfl, rfl, rfl⟩ := hop
      obtain ⟨hx, hn⟩ := bind_noTup hz
      obtain ⟨hv, h1⟩ := cells_sound (ev_sound ht hx) hn
      refine newRow rfl (u := .pointer (some ⟨w.heap.size, 0, none⟩)) (cur := (a.eval x).cells) (e := t) (vs := (a.eval x).cells.toList) ?_ (by simp) (by simpa using hv) (by simpa using h1) (by simp) (by have := VL.length hv; simp at this ⊢; omega) ?_
      · simp [execOp, ho, Instr.box, newVar, Go.newRow]
      · intro φ' S' hφ; simp only [VRel]; exact ⟨_, hφ, by simp⟩
  | build t parts =>
    simp only [ho] at hop
    refine rdv hop (by rw [execOp, ho]) fun p hp => ?_
    unfold aBuild at hp
    obtain ⟨ps, h1, h2⟩ := bind1 hp
    exact buildPV_sound h2 (by have := partsOf_sound ht h1; simpa using this)
  | buildSlice t n parts =>
    simp only [ho, aBuildSlice] at hop
    obtain ⟨ps, h1, h2⟩ := bind1 hop
    cases hb : buildSliceM P t n ps with
    | none => simp [hb] at h2
    | some m =>
      simp only [hb, Option.map_some, Option.some.injEq, Prod.mk.injEq] at h2
      obtain ⟨rfl, rfl, rfl⟩ := h2
      obtain ⟨es, z, arr, e, rfl, hr, hl, hv, ho1, hw⟩ := buildSliceM_sound (P := P) (ps := parts.map fun (i, x) => (i, a.eval x)) hb (by have := partsOf_sound ht h1; simpa using this)
      have hsz : arr.size = n * z := by have := VL.length hv; rw [flatten_len es hw, hl] at this; simpa using this
      refine newRow rfl (u := .slice (some ⟨w.heap.size, 0, none⟩) n n) (cur := arr) (e := e) (vs := arr.toList) ?_ hw hv ho1 (by simp) (by rw [hl, hsz]; exact Nat.le_refl _) ?_
      · simp only [execOp, ho]; exact run_v hr
      · intro φ' S' hφ; simp only [VRel]; exact ⟨_, _, n, hφ, rfl, Nat.le_refl _, Nat.le_refl _, .inr ⟨by simp, by simp [hsz]⟩⟩
  | load t x =>
    simp only [ho] at hop
    refine rdv hop (by rw [execOp, ho]) fun p hp => ?_
    obtain ⟨q, h1, h2⟩ := bind1 hp
    exact loadPV_sound hI h2 (ev_sound ht h1)
  | nilCheck x =>
    simp only [ho] at hop
    obtain ⟨hx, _, _⟩ := val_spec hop
    unfold aNilCheck at hx
    obtain ⟨q, h1, h2⟩ := bind1 hx
    have hq := ev_sound ht h1
    cases q <;> simp only [] at h2 <;> try (cases h2; done)
    · cases h2
      simp only [VRel] at hq
      obtain ⟨l, hl, hq⟩ := hq
      exact same (u := a.eval x) (by simp [execOp, ho, hq]) (by rw [hq]; simp only [VRel]; exact ⟨l, hl, rfl⟩)
    · cases h2
      have hq' := hq
      simp only [VRel, IRel] at hq'
      obtain ⟨b, oo, hq', _⟩ := hq'
      exact same (u := a.eval x) (by simp [execOp, ho, hq']) hq
    · cases h2
      have hq' := hq
      simp only [VRel] at hq'
      obtain ⟨fs, cs, hq', _⟩ := hq'
      exact same (u := a.eval x) (by simp [execOp, ho, hq']) hq
  | binOp op t x y yt =>
    simp only [ho] at hop
    refine rdv (s := (do eqGuard op t x y (a.eval x) (a.eval y); binOp op t (a.eval x) (a.eval y))) hop (by rw [execOp, ho]) fun p hp => ?_
    obtain ⟨q, r, h1, h2, h3⟩ := bind2 hp
    exact binPV_sound h3 (ev_sound ht h1) (ev_sound ht h2)
  | unOp op t x =>
    simp only [ho] at hop
    refine rdv hop (by rw [execOp, ho]) fun p hp => ?_
    obtain ⟨q, h1, h2⟩ := bind1 hp
    exact unPV_sound h2 (ev_sound ht h1)
  | convert s d x =>
    simp only [ho] at hop
    obtain ⟨hx, rfl, rfl⟩ := val_spec hop
    obtain ⟨q, h1, h2⟩ := bind1 hx
    obtain ⟨u, w', S', h3, h4, h5, h6⟩ := convPV_sound (P := P) hI h2 (ev_sound ht h1)
    exact wp_of_run (by simp only [execOp, ho]; exact run_v h3) (hK _ w' φ S' h4 h5 h6 (fun _ _ => rfl))
  | makeFunc fn first caps =>
    simp only [ho] at hop
    obtain ⟨hx, _, _⟩ := val_spec hop
    unfold aFunc at hx
    split at hx
    · rename_i f
      obtain ⟨as, h1, h2⟩ := bind1 hx
      cases h3 : omap (ev tm) caps.toList with
      | none => simp [h3] at h2
      | some cs =>
        simp only [h3, Option.map_some, Option.some.injEq] at h2
        subst h2
        refine same (u := .func (.func f) (first.map a.eval) (caps.map a.eval)) (by simp [execOp, ho, Instr.makeFunc]) ?_
        simp only [VRel]
        exact ⟨_, _, rfl, by simpa using evs_sound ht h1, by simpa using evs_sound ht h3⟩
    · cases hx
  | makeMap t r =>
    simp only [ho, aMakeMap] at hop
    cases r with
    | some _ => simp at hop
    | none =>
      simp only [] at hop
      cases hs : strMap P t with
      | none => simp [hs] at hop
      | some e =>
        simp only [hs, Option.map_some, Option.some.injEq, Prod.mk.injEq] at hop
        obtain ⟨rfl, rfl, rfl⟩ := hop
        obtain ⟨m', hm', hfz0, hφ⟩ := hms 0 _ rfl
        have hsim := hfz0.sim
        simp only [Nat.add_zero] at hm' hφ
        cases m' with
        | map es' =>
          simp only [simM] at hsim
          subst hsim
          obtain ⟨φ', S', h2, h3, h4, h5⟩ := hI.addMap (below_alloc w (.map #[] 0)) hφ hm' (heap_alloc_at w _)
          refine wp_of_run (u := .map (some w.heap.size)) (w' := w.alloc (.map #[] 0)) (by simp [execOp, ho, Instr.makeMap]) (hK _ _ φ' S' h2 h3 (by simp only [VRel]; exact ⟨_, h4, rfl⟩) ?_)
          intro i hi
          exact h5 i (by rintro rfl; exact hi ⟨Nat.le_refl _, by simp⟩)
        | row _ _ _ => simp [simM] at hsim
        | dead => simp [simM] at hsim
  | makeSlice t l c =>
    simp only [ho, aMakeSlice] at hop
    obtain ⟨lv, cv, h1, h2, h3⟩ := bind2 hop
    cases hb : makeSliceM P t lv cv with
    | none => simp [hb] at h3
    | some g =>
      simp only [hb, Option.map_some, Option.some.injEq, Prod.mk.injEq] at h3
      obtain ⟨rfl, rfl, rfl⟩ := h3
      unfold makeSliceM at hb
      split at hb
      · rename_i k1 l' k2 c'
        have hl := ev_sound ht h1
        have hc := ev_sound ht h2
        simp only [VRel] at hl hc
        cases he : telem P t with
        | none => simp [he] at hb
        | some e =>
          have hu := telem_spec he
          simp only [he, Option.bind_some] at hb
          obtain ⟨z, h4, hb⟩ := bind1 hb
          obtain ⟨by_, h5, hb⟩ := bind1 hb
          obtain ⟨zero, h6, hb⟩ := bind1 hb
          obtain ⟨⟨hl0, hlc, hbc, hc63, hz0, hzl⟩, hb⟩ := if_some hb
          cases hb
          obtain ⟨i, zv, hi, hzi, hv, h1'⟩ := zcells_sound (w := w) (φ := φ) (S := S) h6
          have hsz : i.size = z := by unfold tsize at h4; rw [hi] at h4; simpa using h4
          have hby : i.bytes = by_ := by unfold tbytes at h5; rw [hi] at h5; simpa using h5
          have hzs : zv.cells.size = z := by have := VL.length hv; simpa [hzl] using this
          have hrun := run_make (P := P) w t e i zv hu hi hzi k1 k2 l' c' hl0 hlc (by rw [hby]; exact hbc) (by omega)
          rw [hsz] at hrun
          have hrep : ∀ k, VL φ w S (List.replicate k zero).flatten (List.replicate k zv.cells.toList).flatten := by
            intro k
            induction k with
            | zero => simp [VL]
            | succ k ih => simp only [List.replicate_succ, List.flatten_cons]; exact VL.append hv ih
          have hmade : (madeCells zv.cells (c'.toNat * z)).toList = (List.replicate c'.toNat zv.cells.toList).flatten := by rw [← hzs]; exact toList_madeCells _ _
          have hle : l'.toNat ≤ c'.toNat := by omega
          refine newRow rfl (u := .slice (some ⟨w.heap.size, 0, none⟩) l'.toNat c'.toNat) (cur := madeCells zv.cells (c'.toNat * z)) (e := e) (vs := (List.replicate c'.toNat zv.cells.toList).flatten) ?_ ?_ (hrep _) ?_ ?_ ?_ ?_
          · simp only [execOp, ho, hl, hc]; exact run_v hrun
          · intro x hx; rw [(List.mem_replicate.1 hx).2]; exact hzl
          · intro x hx; simp only [List.mem_flatten, List.mem_replicate] at hx; obtain ⟨y, ⟨_, rfl⟩, hx⟩ := hx; exact h1' x hx
          · intro j x hj
            have : (madeCells zv.cells (c'.toNat * z)).toList[j]? = some x := by
              rw [hmade]
              exact hj
            simpa using this
          · simp only [List.length_replicate, size_madeCells]; exact Nat.le_refl _
          · intro φ' S' hφ; simp only [VRel]; exact ⟨_, _, c'.toNat, hφ, rfl, hle, Nat.le_refl _, .inr ⟨by simp, by simp [size_madeCells]⟩⟩
      · cases hb
  | slice t x lo hi mx =>
    simp only [ho] at hop
    refine rdv hop (by rw [execOp, ho]) fun p hp => ?_
    unfold aSlice at hp
    obtain ⟨q, h1, hp⟩ := bind1 hp
    obtain ⟨l, h2, hp⟩ := bind1 hp
    obtain ⟨k, h3, hp⟩ := bind1 hp
    obtain ⟨m, h4, hp⟩ := bind1 hp
    exact slicePV_sound hI hp (ev_sound ht h1) (aOpt_sound ht h2) (aOpt_sound ht h3) (aOpt_sound ht h4)
  | fieldAddr s x f =>
    simp only [ho] at hop
    refine rdv hop (by rw [execOp, ho]) fun p hp => ?_
    obtain ⟨q, h1, h2⟩ := bind1 hp
    exact fieldAddrPV_sound h2 (ev_sound ht h1)
  | field s x f =>
    simp only [ho] at hop
    refine rdv hop (by rw [execOp, ho]) fun p hp => ?_
    obtain ⟨q, h1, h2⟩ := bind1 hp
    exact fieldPV_sound h2 (ev_sound ht h1)
  | indexAddr t x i =>
    simp only [ho] at hop
    refine rdv hop (by rw [execOp, ho]) fun p hp => ?_
    obtain ⟨q, r, h1, h2, h3⟩ := bind2 hp
    exact indexAddrPV_sound hI h3 (ev_sound ht h1) (ev_sound ht h2)
  | index t x i =>
    simp only [ho] at hop
    refine rdv hop (by rw [execOp, ho]) fun p hp => ?_
    obtain ⟨q, r, h1, h2, h3⟩ := bind2 hp
    exact indexPV_sound h3 (ev_sound ht h1) (ev_sound ht h2)
  | lookup t x k ok =>
    simp only [ho] at hop
    refine rdv hop (by rw [execOp, ho]) fun p hp => ?_
    obtain ⟨q, r, h1, h2, h3⟩ := bind2 hp
    exact lookupPV_sound hI h3 (ev_sound ht h1) (ev_sound ht h2)
  | extract x i =>
    simp only [ho] at hop
    refine rdv hop (by rw [execOp, ho]) fun p hp => ?_
    have hp' := hp
    unfold aExtract at hp'
    obtain ⟨q, h1, _⟩ := bind1 hp'
    rw [h1] at hp
    exact extract_sound hp (ev_sound ht h1)
  | call c =>
    simp only [ho, aCallR] at hop
    cases hc : c.callee with
    | builtin b =>
      simp only [hc] at hop
      obtain ⟨hx, _, _⟩ := val_spec hop
      obtain ⟨vs, h1, h2⟩ := bind1 hx
      obtain ⟨u, h3, h4⟩ := builtinR_sound (P := P) (ty := o.type) (cs := c.args.map fun | .const _ => true | _ => false) hI h2 (evs_sound ht h1)
      refine same (u := u) ?_ h4
      simp only [execOp, ho, resolve, hc, Sem.run_bind, Sem.run_pure, Result.andThen_ok, invoke]
      rw [show c.args.map a.eval = (c.args.toList.map a.eval).toArray from by rw [← Array.toList_map, Array.toArray_toList]]
      exact h3
    | value x =>
      cases x with
      | func f =>
        simp only [hc, aCallC] at hop
        obtain ⟨hno, hop⟩ := if_none hop
        obtain ⟨vs, h1, h2⟩ := bind1 hop
        have h3 := callC_sound hG.rn hG.prim hI h2 (evs_sound ht h1) hms hfz
        refine wp_of_enter (f := f) (args := (c.args.toList.map a.eval).toArray) ?_ (h3.mono ?_)
        · simp only [execOp, ho, resolve, hc, Act.eval, Deferred.ofValue, Sem.run_bind, Sem.run_pure, Result.andThen_ok, invoke]
          rw [run_callFunc (callC_ok hG h2), show c.args.map a.eval = (c.args.toList.map a.eval).toArray from by rw [← Array.toList_map, Array.toArray_toList]]
          simp only [Array.empty_append, Array.append_empty]
        · rintro e w' ⟨u, φ', S', rfl, h4, h5, h6, h7⟩
          exact ⟨u, rfl, hK u w' φ' S' h4 h5 h6 h7⟩
      | _ => simp [hc] at hop
    | invoke _ _ => simp [hc] at hop
  | _ => simp [ho] at hop

end
end Go.Am
