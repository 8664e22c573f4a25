/-
  The operations that do not write: each by its own law, for the walk's calculus.
-/
import Derived.Test.YtcclbkkgpcpikaaAm24
set_option linter.unusedSimpArgs false
set_option linter.unusedVariables false
namespace Go.Am
open Go.RowKit

def conv : Ex → Exit
  | .normal => .normal
  | .exit id => .exit id
  | .ret => .ret

/-- What a call comes to. -/
def Gives (H' : List Mem) (k B : Nat) (φ : Phi) (S : Nat → Prop) (w : World) (v : PV) (e : Ending) (w' : World) : Prop :=
  ∃ u φ' S', e = .returned u ∧ Inv φ' H' w' S' B ∧ Evo k B φ S w φ' S' w' ∧ VRel φ' w' S' v u

section
variable {P : Program} {h : Hints} {E : Ev}

def RnSound (P : Program) (E : Ev) : Prop := ∀ f args H v H', E.rn f args H = some (v, H') → ∀ φ S w B vals, Inv φ H w S B → VL φ w S args vals → Calls P f vals.toArray w (Gives H' H.length B φ S w v)

def PrimSound (P : Program) (h : Hints) : Prop := ∀ f g, h.prim f = some g → ∀ qs v, g qs = some v → ∀ (S : Nat → Prop) w vals, (∀ b, S b → b < w.heap.size) → LRel w S qs vals →
  Calls P f vals.toArray w fun e w' => ∃ u, e = .returned u ∧ Below w.heap.size w w' ∧ IRel w' (fun b => S b ∨ (w.heap.size ≤ b ∧ b < w'.heap.size)) v u

variable {w : World} {φ : Phi} {S : Nat → Prop} {B : Nat} {H : List Mem}

theorem Inv.empty (S : Nat → Prop) (w : World) (hS : ∀ b, S b → b < w.heap.size) : Inv (fun _ => none) [] w S w.heap.size where
  live := by intro id l h; cases h
  row := by intro id l es z m h; cases h
  map := by intro id l es h; cases h
  apart := by intro i j l l' m m' _ h; cases h
  stable := hS
  base := Nat.le_refl _

theorem LRel_toV0 {qs : List PV} {vals : List Value} (h : LRel w S qs vals) : VL (fun _ => none) w S qs vals := LRel.toV _ _ h

theorem callC_sound (hE : RnSound P E) (hP : PrimSound P h) (hI : Inv φ H w S B) {f : FuncId} {args : List PV} {vals : List Value} {q : PV} {ms : List Mem} {fz : List Nat} {base : Nat} (hc : callC h E f args H base = some (q, ms, fz))
    (hv : VL φ w S args vals) (hms : NewAt H φ base ms) (hfz : ∀ id ∈ fz, ∀ l es z m, φ id = some l → H[id]? = some (.row es z m) → S l.b) :
    Calls P f vals.toArray w (fun e w' => ∃ u φ' S', e = .returned u ∧ Inv φ' H w' S' B ∧ Evo H.length B φ S w φ' S' w' ∧ VRel φ' w' S' q u ∧ ∀ i, ¬ (base ≤ i ∧ i < base + ms.length) → φ' i = φ i) := by
  unfold callC at hc
  cases hq : omap (exp expFuel H) args with
  | none => simp [hq] at hc
  | some qs =>
    simp only [hq, Option.bind_some] at hc
    have hstab : ∀ b, withIds S φ (args.flatMap (rch expFuel H)) b → b < w.heap.size := by
      rintro b (hb | ⟨id, _, l, hl, rfl⟩)
      · exact hI.stable b hb
      · exact (hI.live id l hl).2.1
    have hL := (expL_sound (exp_sound hI (args.flatMap (rch expFuel H)) expFuel) args qs vals hq hv (fun _ hid => hid)).1
    cases himp : h.imp f with
    | true =>
      rw [himp, cond_true] at hc
      unfold impC at hc
      cases hr : impCall E f qs base with
      | none => simp [hr] at hc
      | some r =>
        obtain ⟨v', ms', sf⟩ := r
        simp only [hr, Option.map_some, Option.some.injEq, Prod.mk.injEq] at hc
        obtain ⟨rfl, rfl, rfl⟩ := hc
        unfold impCall at hr
        obtain ⟨⟨v, Hc⟩, hg, hr⟩ := bind1 hr
        obtain ⟨st, hcm, hr⟩ := bind1 hr
        obtain ⟨hok, hr⟩ := if_some hr
        simp only [Option.some.injEq, Prod.mk.injEq] at hr
        obtain ⟨rfl, rfl, rfl⟩ := hr
        simp only [Bool.and_eq_true] at hok
        refine (hE f qs [] v Hc hg _ _ w w.heap.size vals (Inv.empty _ w hstab) (LRel_toV0 hL)).mono ?_
        rintro e w' ⟨u, φc, Sc, rfl, hIc, hev, hvr⟩
        obtain ⟨us, h1, h2⟩ := parts_rel hvr
        obtain ⟨φ2, h3, h4⟩ := compact_list hcm hIc h1
        obtain ⟨φ', S', h5, h6, h7, h8⟩ := import_sound (base := base) hI hev.below h3 hms hok.2 (by
            cases hsf : ((st.tm.all fun y => selfP y.2) && st.hp.all selfM) with
            | true =>
              simp only [Bool.and_eq_true, List.all_eq_true] at hsf
              refine .inl ⟨List.all_eq_true.2 hsf.2, fun y hy => ?_⟩
              obtain ⟨x, hx, rfl⟩ := List.mem_map.1 hy
              exact hsf.1 x hx
            | false =>
              refine .inr fun b hlt hb => ?_
              rw [hsf, cond_false] at hfz
              rcases hev.old b hlt hb with hs | ⟨id, hid, l, hl, rfl⟩
              · exact hs
              · obtain ⟨x, _, hx⟩ := List.mem_flatMap.1 hid
                obtain ⟨es, z, m, hrow⟩ := rch_row _ _ _ hx
                exact hfz id hid l es z m hl hrow) h4 (fun y hy => by
              obtain ⟨x, hx, rfl⟩ := List.mem_map.1 hy
              exact List.all_eq_true.1 hok.1 x hx)
        refine ⟨u, φ', S', rfl, h5, h6, h2 φ' w' S' _ ?_, fun i hi => h8 i (by simpa using hi)⟩
        rw [List.map_map] at h7
        exact h7
    | false =>
    rw [himp, cond_false] at hc
    unfold pureC at hc
    -- the call itself
    have main : ∀ r, pureCall h E f qs = some r →
        Calls P f vals.toArray w (fun e w' => ∃ u S2, e = .returned u ∧ Below w.heap.size w w' ∧ IRel w' S2 r u ∧ (∀ b, S2 b → b < w'.heap.size ∧ (b < w.heap.size → withIds S φ (args.flatMap (rch expFuel H)) b))) := by
      intro r hr
      unfold pureCall at hr
      cases hp : h.prim f with
      | some g =>
        simp only [hp] at hr
        cases hg : g qs with
        | none => simp [hg] at hr
        | some v =>
          simp only [hg, Option.bind_some] at hr
          refine (hP f g hp qs v hg _ w vals hstab hL).mono ?_
          rintro e w' ⟨u, rfl, hb, hir⟩
          have hst2 : ∀ b, (withIds S φ (args.flatMap (rch expFuel H)) b ∨ (w.heap.size ≤ b ∧ b < w'.heap.size)) → b < w'.heap.size :=
            fun b hb' => hb'.elim (fun h' => Nat.lt_of_lt_of_le (hstab b h') hb.size) (fun h' => h'.2)
          have := (exp_sound (Inv.empty _ w' hst2) [] expFuel v r u hr (IRel.toV _ _ hir) (by
            intro id hid; have := rch_lt expFuel v id hid; simp at this)).1
          refine ⟨u, _, rfl, hb, IRel.mono (fun b hb' => ⟨hb'.elim id (by rintro ⟨id, hid, _⟩; simp at hid), rfl⟩) _ _ this, fun b hb' => ⟨hst2 b hb', fun hlt => hb'.elim id (fun h' => by omega)⟩⟩
      | none =>
        simp only [hp] at hr
        cases hg : E.rn f qs [] with
        | none => simp [hg] at hr
        | some x =>
          obtain ⟨v, Hc⟩ := x
          simp only [hg, Option.bind_some] at hr
          refine (hE f qs [] v Hc hg _ _ w w.heap.size vals (Inv.empty _ w hstab) (LRel_toV0 hL)).mono ?_
          rintro e w' ⟨u, φc, Sc, rfl, hIc, hev, hvr⟩
          have hx := (exp_sound hIc (rch expFuel Hc v) expFuel v r u hr hvr (fun _ hid => hid)).1
          refine ⟨u, _, rfl, hev.below, hx, ?_⟩
          rintro b (hb | ⟨id, _, l, hl, rfl⟩)
          · exact ⟨hIc.stable b hb, fun hlt => hev.old b hlt hb⟩
          · have := hIc.live id l hl
            exact ⟨this.2.1, fun hlt => by omega⟩
    cases hr : pureCall h E f qs with
    | none => simp [hr] at hc
    | some r =>
      simp only [hr, Option.bind_some] at hc
      by_cases hm : h.mem f = true
      · rw [if_pos hm] at hc
        cases hc
        refine (main _ hr).mono ?_
        rintro e w' ⟨u, S2, rfl, hb, hir, hS2⟩
        obtain ⟨h1, h2⟩ := hI.foreign hb
        refine ⟨u, φ, _, rfl, h1, h2, IRel.toV _ _ (IRel.mono (fun b hb' => ⟨?_, rfl⟩) _ _ hir), fun _ _ => rfl⟩
        obtain ⟨hlt, hold⟩ := hS2 b hb'
        by_cases hb2 : b < w.heap.size
        · rcases hold hb2 with hs | ⟨id, hid, l, hl, rfl⟩
          · exact .inl hs
          · obtain ⟨x, _, hx⟩ := List.mem_flatMap.1 hid
            obtain ⟨es, z, m, hrow⟩ := rch_row _ _ _ hx
            exact .inl (hfz id hid l es z m hl hrow)
        · exact .inr ⟨by omega, hlt⟩
      · rw [if_neg hm] at hc
        obtain ⟨hnm, hc⟩ := if_some hc
        cases hc
        refine (main _ hr).mono ?_
        rintro e w' ⟨u, S2, rfl, hb, hir, hS2⟩
        obtain ⟨h1, h2⟩ := hI.foreign hb
        exact ⟨u, φ, _, rfl, h1, h2, IRel.toV _ _ (noMem_mono hnm hir), fun _ _ => rfl⟩

/-! the calculus -/
variable {o : Oper} {a : Act} {K : Act → World → Prop} {Q : Exit → Act → World → Prop}

theorem run_v {s : Sem Value} {u : Value} {w' : World} (h : s.run P w = .ok u w') : (do pure (Next.value (← s)) : Sem Next).run P w = .ok (.value u) w' := by
  simp [h]
theorem wp_of_run {u : Value} {w' : World} (h : (execOp a.eval o).run P w = .ok (.value u) w') (hk : K (a.put o.dst u) w') : o.wp P a w K Q := by
  unfold Oper.wp; rw [h]; exact hk
theorem wp_of_enter {f : FuncId} {args : Array Value} (h : (execOp a.eval o).run P w = .ok (.enter f args) w) (hk : Calls P f args w fun e w' => ∃ u, e = .returned u ∧ K (a.put o.dst u) w') : o.wp P a w K Q := by
  unfold Oper.wp; rw [h]
  rw [Oper.upon_enter]
  refine hk.mono ?_
  rintro e w' ⟨u, rfl, hu⟩
  exact hu

theorem val_spec {x : Option PV} {v : PV} {ms : List Mem} {fz : List Nat} (h : val x = some (v, ms, fz)) : x = some v ∧ ms = [] ∧ fz = [] := by
  unfold val at h
  cases x with
  | none => simp at h
  | some y => simp at h; obtain ⟨rfl, rfl, rfl⟩ := h; exact ⟨rfl, rfl, rfl⟩

/-- A function that may be entered. -/
def FnOk (P : Program) (f : FuncId) : Prop := ∃ fn, P.funcs[f]? = some fn ∧ fn.body.isSome = true ∧ (fn.name == "runtime.NumGoroutine") = false
theorem run_callFunc {f : FuncId} (hf : FnOk P f) (args : Array Value) : (callFunc f args).run P w = .ok (.enter f args) w := by
  obtain ⟨fn, h1, h2, h3⟩ := hf
  have h4 : fn.body.isNone = false := by cases hb : fn.body <;> simp_all
  simp only [callFunc, Sem.run_bind, run_program, Result.andThen_ok, h1, h3, h4, Bool.false_eq_true, if_false, Sem.run_pure]

end
end Go.Am
