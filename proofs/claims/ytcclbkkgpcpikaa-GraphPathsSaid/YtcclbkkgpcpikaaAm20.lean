/-
  Soundness of the evaluator.
-/
import Derived.Test.YtcclbkkgpcpikaaAm18
import Derived.LoopN
set_option linter.unusedSimpArgs false
set_option linter.unusedVariables false
namespace Go.Am
open Go.RowKit

noncomputable def codeOk (h : Hints) (fid : Nat) : Code → Bool
  | .region id ops draw => bif draw then drawOk h (h.light fid id) ops else (h.light fid id).isEmpty
  | .seq a b => codeOk h fid a && codeOk h fid b
  | .cond _ a b => codeOk h fid a && codeOk h fid b
  | .block _ b => codeOk h fid b
  | .loop b => codeOk h fid b
  | _ => true
/-- What is looked at in the program's text: the functions that the hints let in. -/
noncomputable def fnChk (P : Program) (h : Hints) (f : Nat) : Bool :=
  match P.funcs[f]? with
  | some fn => match fn.body with
    | some c => !(fn.name == "runtime.NumGoroutine") && codeOk h f c
    | none => false
  | none => false
structure Static (P : Program) (h : Hints) : Prop where
  mixed : P.follows .mixedOrders = true
  fns : ∀ f, h.ok f = true → fnChk P h f = true
  prims : ∀ f, (h.prim f).isSome = true → FnOk P f

section
variable {P : Program} {h : Hints} {E : Ev}

theorem stepOpsL_nil (N : Nat) (ops : Array Oper) : ∀ (l : List Oper) (i : Nat) (s : St), stepOpsL P h E N ops [] l i [] s = stepOps P h E N ops l s
  | [], _, _ => rfl
  | o :: l, i, s => by
    show (stepE P h E N ops [] i o s).bind (fun s' => stepOpsL P h E N ops [] l (i + 1) [] s') = (stepOp P h E N ops o s).bind fun s => stepOps P h E N ops l s
    have : stepE P h E N ops [] i o s = stepOp P h E N ops o s := rfl
    rw [this]
    congr 1
    funext s
    exact stepOpsL_nil N ops l (i + 1) s

theorem stepOps_len (hG : Good P h E) {N : Nat} {ops : Array Oper} : ∀ (l : List Oper) (s s' : St), stepOps P h E N ops l s = some s' → s.hp.length ≤ s'.hp.length
  | [], s, s', h => by cases h; exact Nat.le_refl _
  | o :: l, s, s', h => by
    obtain ⟨s1, h1, h2⟩ := bind1 (x := stepOp P _ E N ops o s) (f := fun s => stepOps P _ E N ops l s) h
    exact Nat.le_trans (stepOp_len hG h1) (stepOps_len hG l s1 s' h2)
theorem stepOpsL_len (hG : Good P h E) {N : Nat} {ops : Array Oper} {ls : List Nat} : ∀ (l : List Oper) (i : Nat) (acc : List (Oper × List (Nat × PV) × PV)) (s s' : St), stepOpsL P h E N ops ls l i acc s = some s' → s.hp.length ≤ s'.hp.length
  | [], _, _, s, s', h => by cases h; exact Nat.le_refl _
  | o :: l, i, acc, s, s', h => by
    obtain ⟨s1, h1, h2⟩ := stepOpsL_uncons h
    have h3 : s1.hp.length ≤ s'.hp.length := by
      rcases h2 with ⟨_, _, _, h2⟩ | ⟨_, _, h2⟩
      · exact stepOpsL_len hG l (i + 1) _ s1 s' h2
      · exact stepOpsL_len hG l (i + 1) _ s1 s' h2
    refine Nat.le_trans ?_ h3
    obtain ⟨v, hv⟩ := stepE_at h1
    rcases hv.kind with ⟨_, _, e⟩ | ⟨_, _, _, e⟩ | ⟨_, _, e⟩
    · rw [e]; exact Nat.le_refl _
    · rw [e]; exact Nat.le_refl _
    · exact opA_len hG e

/-- What is shown of a run, for every state that the evaluator's state stands for. -/
def Hyp (c : Cx) (s : St) (e : Ex) (s' : St) (R : (Exit → Act → World → Prop) → Act → World → Prop) : Prop :=
  ∀ φ S w a B, Inv φ s.hp w S B → TRel φ w S c.N s.tm a → c.base ≤ s.hp.length → ∀ Q : Exit → Act → World → Prop,
  (∀ a' w' φ' S', Inv φ' s'.hp w' S' B → Evo c.base B φ S w φ' S' w' → TRel φ' w' S' c.N s'.tm a' → c.base ≤ s'.hp.length → Q (conv e) a' w') → R Q a w
def ExSound (P : Program) (h : Hints) (E : Ev) : Prop := ∀ (c : Cx) (code : Code) (s : St) (e : Ex) (s' : St), E.ex c code s = some (e, s') → codeOk h c.fid code = true →
  Hyp c s e s' (fun Q a w => code.wp P Q a w) ∧ ∀ b, code = .loop b → ∃ r, Hyp c s e s' fun Q a w => Code.rounds P b Q r a w

theorem region_sound (hS : Static P h) (hG : Good P h E) {c : Cx} {id : Nat} {ops : Array Oper} {draw : Bool} {s s' : St} (hst : regA P h E c.N (h.light c.fid id) ops s = some s')
    (hok : codeOk h c.fid (.region id ops draw) = true) {φ : Phi} {S : Nat → Prop} {w : World} {a : Act} {B : Nat} (hI : Inv φ s.hp w S B) (ht : TRel φ w S c.N s.tm a) (hb : c.base ≤ s.hp.length) {Q : Exit → Act → World → Prop}
    (hQ : ∀ a' w' φ' S', Inv φ' s'.hp w' S' B → Evo c.base B φ S w φ' S' w' → TRel φ' w' S' c.N s'.tm a' → c.base ≤ s'.hp.length → Q .normal a' w') : (Code.region id ops draw).wp P Q a w := by
  have hst' : stepOpsL P h E c.N ops (h.light c.fid id) ops.toList 0 [] s = some s' := by
    unfold regA at hst
    split at hst
    · rename_i hl; rw [hl, stepOpsL_nil]; exact hst
    · exact hst
  have hlen := stepOpsL_len hG _ _ _ _ _ hst'
  cases draw with
  | true =>
    simp only [codeOk, cond_true] at hok
    apply wp_region_any hS.mixed
    have hbel : Below w.heap.size w { w with drawn := w.drawn + 1 } := ⟨rfl, rfl, rfl, Nat.le_refl _, fun _ _ => rfl⟩
    obtain ⟨h1, h2⟩ := hI.foreign hbel
    refine draw_wp hG hok hst' h1 (ht.evo h2 hI (Nat.le_refl _)) ?_
    intro a' w' φ' S' h3 h4 h5
    exact hQ a' w' φ' S' h3 ((h2.mono hb).trans (h4.mono hb)) h5 (by omega)
  | false =>
    simp only [codeOk, cond_false, List.isEmpty_iff] at hok
    rw [hok, stepOpsL_nil] at hst'
    apply wp_region
    exact stepOps_wp hG c.base ops.toList 0 s s' φ S a w rfl hst' hI ht hb hQ

theorem ex_step (hS : Static P h) (hG : Good P h E) (hX : ExSound P h E) : ExSound P h (step P h E) := by
  intro c code s e s' hst hok
  -- a loop's rounds; whatever is no loop runs as it stands
  cases code with
  | loop b =>
    simp only [step] at hst
    have hok' : codeOk h c.fid b = true := by simpa only [codeOk] using hok
    obtain ⟨s0, h0, hst⟩ := bind1 hst
    obtain ⟨⟨e1, s1⟩, h1, h2⟩ := bind1 hst
    have main : ∃ r, Hyp c s e s' fun Q a w => Code.rounds P b Q r a w := by
      cases e1 with
      | normal =>
        simp only [] at h2
        obtain ⟨r, hr⟩ := (hX c (.loop b) s1 e s' h2 hok).2 b rfl
        refine ⟨r + 1, ?_⟩
        intro φ S w a B hI ht hb Q hQ
        obtain ⟨φ0, hI0, ht0, hb0, hE0⟩ := maskK_sound h0 hI ht hb
        refine (hX c b s0 _ s1 h1 hok').1 φ0 S w a B hI0 ht0 hb0 _ ?_
        intro a1 w1 φ1 S1 h3 h4 h5 h6
        simp only [conv, Exit.then]
        refine hr φ1 S1 w1 a1 B h3 h5 h6 Q ?_
        intro a2 w2 φ2 S2 h7 h8 h9 h10
        exact hQ a2 w2 φ2 S2 h7 ((hE0.trans h4).trans h8) h9 h10
      | exit id =>
        simp only [Option.some.injEq, Prod.mk.injEq] at h2
        obtain ⟨rfl, rfl⟩ := h2
        refine ⟨1, ?_⟩
        intro φ S w a B hI ht hb Q hQ
        obtain ⟨φ0, hI0, ht0, hb0, hE0⟩ := maskK_sound h0 hI ht hb
        exact (hX c b s0 _ s1 h1 hok').1 φ0 S w a B hI0 ht0 hb0 _ fun a1 w1 φ1 S1 h3 h4 h5 h6 => hQ a1 w1 φ1 S1 h3 (hE0.trans h4) h5 h6
      | ret =>
        simp only [Option.some.injEq, Prod.mk.injEq] at h2
        obtain ⟨rfl, rfl⟩ := h2
        refine ⟨1, ?_⟩
        intro φ S w a B hI ht hb Q hQ
        obtain ⟨φ0, hI0, ht0, hb0, hE0⟩ := maskK_sound h0 hI ht hb
        exact (hX c b s0 _ s1 h1 hok').1 φ0 S w a B hI0 ht0 hb0 _ fun a1 w1 φ1 S1 h3 h4 h5 h6 => hQ a1 w1 φ1 S1 h3 (hE0.trans h4) h5 h6
    obtain ⟨r, hr⟩ := main
    exact ⟨fun φ S w a B hI ht hb Q hQ => wp_loop_rounds r (hr φ S w a B hI ht hb Q hQ), fun b' hb' => by cases hb'; exact ⟨r, hr⟩⟩
  | skip =>
    refine ⟨?_, by simp⟩
    intro φ S w a B hI ht hb Q hQ
    simp only [step, Option.some.injEq, Prod.mk.injEq] at hst
    obtain ⟨rfl, rfl⟩ := hst
    exact wp_skip (hQ a w φ S hI (Evo.refl _ _ _ _ _) ht hb)
  | label l =>
    refine ⟨?_, by simp⟩
    intro φ S w a B hI ht hb Q hQ
    simp only [step, Option.some.injEq, Prod.mk.injEq] at hst
    obtain ⟨rfl, rfl⟩ := hst
    exact wp_label (hQ a w φ S hI (Evo.refl _ _ _ _ _) ht hb)
  | exit id =>
    refine ⟨?_, by simp⟩
    intro φ S w a B hI ht hb Q hQ
    simp only [step, Option.some.injEq, Prod.mk.injEq] at hst
    obtain ⟨rfl, rfl⟩ := hst
    exact wp_exit (hQ a w φ S hI (Evo.refl _ _ _ _ _) ht hb)
  | ret =>
    refine ⟨?_, by simp⟩
    intro φ S w a B hI ht hb Q hQ
    simp only [step, Option.some.injEq, Prod.mk.injEq] at hst
    obtain ⟨rfl, rfl⟩ := hst
    exact wp_ret (hQ a w φ S hI (Evo.refl _ _ _ _ _) ht hb)
  | region id ops draw =>
    refine ⟨?_, by simp⟩
    intro φ S w a B hI ht hb Q hQ
    simp only [step] at hst
    cases hr : regA P h E c.N (h.light c.fid id) ops s with
    | none => rw [hr] at hst; simp at hst
    | some s1 =>
      rw [hr] at hst
      simp only [Option.map_some, Option.some.injEq, Prod.mk.injEq] at hst
      obtain ⟨rfl, rfl⟩ := hst
      exact region_sound hS hG hr hok hI ht hb hQ
  | seq x y =>
    refine ⟨?_, by simp⟩
    intro φ S w a B hI ht hb Q hQ
    simp only [step] at hst
    simp only [codeOk, Bool.and_eq_true] at hok
    obtain ⟨⟨e1, s1⟩, h1, h2⟩ := bind1 hst
    refine wp_seq ?_
    cases e1 with
    | normal =>
      simp only [] at h2
      refine (hX c x s _ s1 h1 hok.1).1 φ S w a B hI ht hb _ ?_
      intro a1 w1 φ1 S1 h3 h4 h5 h6
      simp only [conv, Exit.then]
      refine (hX c y s1 e s' h2 hok.2).1 φ1 S1 w1 a1 B h3 h5 h6 Q ?_
      intro a2 w2 φ2 S2 h7 h8 h9 h10
      exact hQ a2 w2 φ2 S2 h7 (h4.trans h8) h9 h10
    | exit id =>
      simp only [Option.some.injEq, Prod.mk.injEq] at h2
      obtain ⟨rfl, rfl⟩ := h2
      exact (hX c x s _ s1 h1 hok.1).1 φ S w a B hI ht hb _ fun a1 w1 φ1 S1 h3 h4 h5 h6 => hQ a1 w1 φ1 S1 h3 h4 h5 h6
    | ret =>
      simp only [Option.some.injEq, Prod.mk.injEq] at h2
      obtain ⟨rfl, rfl⟩ := h2
      exact (hX c x s _ s1 h1 hok.1).1 φ S w a B hI ht hb _ fun a1 w1 φ1 S1 h3 h4 h5 h6 => hQ a1 w1 φ1 S1 h3 h4 h5 h6
  | cond x y z =>
    refine ⟨?_, by simp⟩
    intro φ S w a B hI ht hb Q hQ
    simp only [step] at hst
    simp only [codeOk, Bool.and_eq_true] at hok
    obtain ⟨v, h1, h2⟩ := bind1 hst
    cases v <;> simp only [] at h2 <;> try (cases h2; done)
    rename_i t
    have hv := ev_sound ht h1
    simp only [VRel] at hv
    refine wp_cond hv ?_
    refine (hX c _ s e s' h2 ?_).1 φ S w a B hI ht hb Q hQ
    cases t
    · exact hok.2
    · exact hok.1
  | block id b =>
    refine ⟨?_, by simp⟩
    intro φ S w a B hI ht hb Q hQ
    simp only [step] at hst
    simp only [codeOk] at hok
    obtain ⟨⟨e1, s1⟩, h1, h2⟩ := bind1 hst
    refine wp_block ?_
    refine (hX c b s _ s1 h1 hok).1 φ S w a B hI ht hb _ ?_
    intro a1 w1 φ1 S1 h3 h4 h5 h6
    have out : (maskK (h.keepB c.fid id) c s1).map (fun s'' => (Ex.normal, s'')) = some (e, s') → Q .normal a1 w1 := by
      intro hx
      cases hm : maskK (h.keepB c.fid id) c s1 with
      | none => simp [hm] at hx
      | some s2 =>
        simp only [hm, Option.map_some, Option.some.injEq, Prod.mk.injEq] at hx
        obtain ⟨rfl, rfl⟩ := hx
        obtain ⟨φ2, g1, g2, g3, g4⟩ := maskK_sound hm h3 h5 h6
        exact hQ a1 w1 φ2 S1 g1 (h4.trans g4) g2 g3
    cases e1 with
    | normal => exact out h2
    | ret =>
      simp only [Option.some.injEq, Prod.mk.injEq] at h2
      obtain ⟨rfl, rfl⟩ := h2
      exact hQ a1 w1 φ1 S1 h3 h4 h5 h6
    | exit j =>
      simp only [conv, Exit.inBlock]
      by_cases hj : j = id
      · simp only [if_pos hj] at h2 ⊢
        exact out h2
      · simp only [if_neg hj, Option.some.injEq, Prod.mk.injEq] at h2 ⊢
        obtain ⟨rfl, rfl⟩ := h2
        exact hQ a1 w1 φ1 S1 h3 h4 h5 h6
  | _ => simp [step] at hst

/-! a call -/
theorem oneOrTup_of {l : List PV} {vs : Array Value} {φ : Phi} {w : World} {S : Nat → Prop} (hv : VL φ w S l vs.toList) : VRel φ w S (oneOrTup l) (if h : vs.size = 1 then vs[0] else .tuple vs) := by
  have hlen := VL.length hv
  match l, hv with
  | [], hv =>
    simp only [oneOrTup, VRel]
    have : vs.size = 0 := by simpa using hlen
    rw [dif_neg (by omega)]
    exact ⟨vs, rfl, hv⟩
  | [p], hv =>
    simp only [VL] at hv
    obtain ⟨v, r, h1, h2, rfl⟩ := hv
    have : vs = #[v] := by apply Array.ext'; simpa using h1
    subst this
    simpa [oneOrTup] using h2
  | p :: q :: r, hv =>
    simp only [oneOrTup, VRel]
    have : vs.size = r.length + 2 := by simpa using hlen
    rw [dif_neg (by omega)]
    exact ⟨vs, rfl, hv⟩

def rdRes (tmps : Array Value) : ResultVar → Sem Value
  | .tmp t => pure (tmps.getD t undef)
  | .cell a t => do loadVar t (← asAddr (tmps.getD a undef))
theorem results_eq (fn : Func) (tmps : Array Value) : results fn tmps = (do let vs ← fn.results.mapM (rdRes tmps); pure (if h : vs.size = 1 then vs[0] else .tuple vs)) := rfl
theorem results_sound {fn : Func} {tm : List (Nat × PV)} {H : List Mem} {vs : List PV} {φ : Phi} {S : Nat → Prop} {w : World} {B N : Nat} {a : Act} (hr : omap (resOf P tm H) fn.results.toList = some vs) (hI : Inv φ H w S B) (ht : TRel φ w S N tm a) :
    ∃ u, (results fn a.tmps).run P w = .ok u w ∧ VRel φ w S (oneOrTup vs) u := by
  have gen : ∀ (l : List ResultVar) (vs : List PV), omap (resOf P tm H) l = some vs →
      ∃ us, (l.mapM (rdRes a.tmps)).run P w = .ok us w ∧ VL φ w S vs us := by
    intro l
    induction l with
    | nil => intro vs h; simp [omap_nil] at h; subst h; exact ⟨[], by simp, by simp only [VL]⟩
    | cons x l ih =>
      intro vs h
      obtain ⟨p, ps, h1, h2, rfl⟩ := omap_cons_some h
      obtain ⟨us, h3, h4⟩ := ih ps h2
      cases x with
      | tmp t =>
        have := (ht.2.2 t p h1).2
        refine ⟨a.tmps.getD t undef :: us, ?_, _, us, rfl, this, h4⟩
        rw [List.mapM_cons]
        simp only [rdRes, Sem.run_bind, Sem.run_pure, Result.andThen_ok, h3]
      | cell x t =>
        simp only [resOf] at h1
        obtain ⟨q, h5, h6⟩ := bind1 h1
        have hq := (ht.2.2 x q h5).2
        obtain ⟨u, h7, h8⟩ := loadPV_sound hI h6 hq
        refine ⟨u :: us, ?_, u, us, rfl, h8, h4⟩
        have : ∃ ad, a.tmps.getD x undef = .pointer (some ad) := by
          cases q <;> simp only [loadPV] at h6 <;> try (cases h6; done)
          · simp only [VRel] at hq; obtain ⟨l, _, hq⟩ := hq; exact ⟨_, hq⟩
          · simp only [VRel, IRel] at hq; obtain ⟨b, o, hq, _⟩ := hq; exact ⟨_, hq⟩
        obtain ⟨ad, had⟩ := this
        rw [had] at h7
        have h9 : (loadVar t ad).run P w = .ok u w := by simpa [Instr.loadAt, Instr.sureAddr] using h7
        rw [List.mapM_cons]
        simp only [rdRes, had, asAddr, Sem.run_bind, Sem.run_pure, Result.andThen_ok, h9, h3]
  obtain ⟨us, h1, h2⟩ := gen _ _ hr
  refine ⟨if h : us.toArray.size = 1 then us.toArray[0] else .tuple us.toArray, ?_, oneOrTup_of (by simpa using h2)⟩
  rw [results_eq, Array.mapM_eq_mapM_toList]
  simp only [Sem.run_bind, Sem.run_pure, Result.andThen_ok, Sem.run_map, h1]

theorem rn_spec {f : FuncId} {args : List PV} {H H' : List Mem} {v : PV} (hr : (step P h E).rn f args H = some (v, H')) :
    ∃ fn code e s vs, h.ok f = true ∧ P.funcs[f]? = some fn ∧ fn.body = some code ∧ args.length ≤ fn.ntmps ∧ E.ex ⟨f, H.length, fn.ntmps⟩ code ⟨enterT 0 args, H⟩ = some (e, s) ∧ (e = .normal ∨ e = .ret) ∧
      omap (resOf P s.tm s.hp) fn.results.toList = some vs ∧ v = oneOrTup vs ∧ H' = s.hp := by
  simp only [step] at hr
  obtain ⟨hok, hr⟩ := if_some hr
  split at hr
  · rename_i fn hf
    split at hr
    · rename_i code hb
      obtain ⟨hn, hr⟩ := if_some hr
      obtain ⟨⟨e, s⟩, h1, hr⟩ := bind1 hr
      have hmap : ∀ {x : Option (List PV)}, x.map (fun vs => (oneOrTup vs, s.hp)) = some (v, H') → ∃ vs, x = some vs ∧ v = oneOrTup vs ∧ H' = s.hp := by
        intro x hx
        cases x with
        | none => simp at hx
        | some vs => simp at hx; exact ⟨vs, rfl, hx.1.symm, hx.2.symm⟩
      cases e with
      | exit id => cases hr
      | normal =>
        obtain ⟨vs, h2, h3, h4⟩ := hmap hr
        exact ⟨fn, code, _, s, vs, hok, hf, hb, hn, h1, .inl rfl, h2, h3, h4⟩
      | ret =>
        obtain ⟨vs, h2, h3, h4⟩ := hmap hr
        exact ⟨fn, code, _, s, vs, hok, hf, hb, hn, h1, .inr rfl, h2, h3, h4⟩
    · cases hr
  · cases hr

def ExLen (E : Ev) : Prop := ∀ (c : Cx) (code : Code) (s : St) (e : Ex) (s' : St), E.ex c code s = some (e, s') → c.base ≤ s.hp.length → c.base ≤ s'.hp.length

theorem maskK_len {k : Option (List Nat × Bool)} {c : Cx} {s st : St} (h0 : maskK k c s = some st) (hb : c.base ≤ s.hp.length) : c.base ≤ st.hp.length := by
  unfold maskK at h0
  split at h0
  · cases h0; exact hb
  · rename_i ks comp
    cases comp with
    | true =>
      simp only [if_true] at h0
      obtain ⟨hz, _⟩ := if_some h0
      omega
    | false =>
      simp only [Bool.false_eq_true, if_false, Option.some.injEq] at h0
      subst h0; exact hb
theorem exlen_step (hG : Good P h E) (hL : ExLen E) : ExLen (step P h E) := by
  intro c code s e s' hst hb
  cases code with
  | skip => simp only [step, Option.some.injEq, Prod.mk.injEq] at hst; rw [← hst.2]; exact hb
  | label l => simp only [step, Option.some.injEq, Prod.mk.injEq] at hst; rw [← hst.2]; exact hb
  | exit id => simp only [step, Option.some.injEq, Prod.mk.injEq] at hst; rw [← hst.2]; exact hb
  | ret => simp only [step, Option.some.injEq, Prod.mk.injEq] at hst; rw [← hst.2]; exact hb
  | region id ops draw =>
    simp only [step] at hst
    cases hr : regA P h E c.N (h.light c.fid id) ops s with
    | none => rw [hr] at hst; simp at hst
    | some s1 =>
      rw [hr] at hst
      simp only [Option.map_some, Option.some.injEq, Prod.mk.injEq] at hst
      rw [← hst.2]
      have hst' : stepOpsL P h E c.N ops (h.light c.fid id) ops.toList 0 [] s = some s1 := by
        unfold regA at hr
        split at hr
        · rename_i hl; rw [hl, stepOpsL_nil]; exact hr
        · exact hr
      exact Nat.le_trans hb (stepOpsL_len hG _ _ _ _ _ hst')
  | seq x y =>
    simp only [step] at hst
    obtain ⟨⟨e1, s1⟩, h1, h2⟩ := bind1 hst
    have h3 := hL _ _ _ _ _ h1 hb
    cases e1 with
    | normal => exact hL _ _ _ _ _ h2 h3
    | exit id => simp only [Option.some.injEq, Prod.mk.injEq] at h2; rw [← h2.2]; exact h3
    | ret => simp only [Option.some.injEq, Prod.mk.injEq] at h2; rw [← h2.2]; exact h3
  | cond x y z =>
    simp only [step] at hst
    obtain ⟨v, h1, h2⟩ := bind1 hst
    cases v <;> simp only [] at h2 <;> try (cases h2; done)
    exact hL _ _ _ _ _ h2 hb
  | block id b =>
    simp only [step] at hst
    obtain ⟨⟨e1, s1⟩, h1, h2⟩ := bind1 hst
    have h3 := hL _ _ _ _ _ h1 hb
    have out : (maskK (h.keepB c.fid id) c s1).map (fun s'' => (Ex.normal, s'')) = some (e, s') → c.base ≤ s'.hp.length := by
      intro hx
      cases hm : maskK (h.keepB c.fid id) c s1 with
      | none => simp [hm] at hx
      | some s2 =>
        simp only [hm, Option.map_some, Option.some.injEq, Prod.mk.injEq] at hx
        obtain ⟨rfl, rfl⟩ := hx
        exact maskK_len hm h3
    cases e1 with
    | normal => exact out h2
    | ret => simp only [Option.some.injEq, Prod.mk.injEq] at h2; rw [← h2.2]; exact h3
    | exit j =>
      simp only [] at h2
      split at h2
      · exact out h2
      · simp only [Option.some.injEq, Prod.mk.injEq] at h2; rw [← h2.2]; exact h3
  | loop b =>
    simp only [step] at hst
    obtain ⟨s0, h0, hst⟩ := bind1 hst
    obtain ⟨⟨e1, s1⟩, h1, h2⟩ := bind1 hst
    have hb0 : c.base ≤ s0.hp.length := maskK_len h0 hb
    have h3 := hL _ _ _ _ _ h1 hb0
    cases e1 with
    | normal => exact hL _ _ _ _ _ h2 h3
    | exit id => simp only [Option.some.injEq, Prod.mk.injEq] at h2; rw [← h2.2]; exact h3
    | ret => simp only [Option.some.injEq, Prod.mk.injEq] at h2; rw [← h2.2]; exact h3
  | _ => simp [step] at hst

theorem fnChk_ok {f : FuncId} (hf : fnChk P h f = true) : FnOk P f := by
  unfold fnChk at hf
  split at hf
  · rename_i fn h1
    split at hf
    · rename_i c h2
      simp only [Bool.and_eq_true, Bool.not_eq_true'] at hf
      exact ⟨fn, h1, by simp [h2], hf.1⟩
    · cases hf
  · cases hf
theorem fnChk_code {f : FuncId} {fn : Func} {c : Code} (hf : fnChk P h f = true) (h1 : P.funcs[f]? = some fn) (h2 : fn.body = some c) : codeOk h f c = true := by
  unfold fnChk at hf
  simp only [h1, h2, Bool.and_eq_true] at hf
  exact hf.2

theorem rn_step (hS : Static P h) (hX : ExSound P h E) : RnSound P (step P h E) := by
  intro f args H v H' hr φ S w B vals hI hv
  obtain ⟨fn, code, e, s, vs, hok, hf, hb, hn, h1, h2, h3, rfl, rfl⟩ := rn_spec hr
  apply calls_of_wp hf hb
  have hvl := VL.length hv
  refine (hX _ code _ e s h1 (fnChk_code (hS.fns f hok) hf hb)).1 φ S w _ B hI ?_ (Nat.le_refl _) _ ?_
  · refine ⟨by simp; omega, rfl, ?_⟩
    intro i p hp
    obtain ⟨_, h5⟩ := enterT_get args 0 i p hp
    simp only [Nat.sub_zero] at h5
    obtain ⟨u, h6, h7⟩ := VL.get hv h5
    have hi := (List.getElem?_eq_some_iff.1 h6).1
    refine ⟨by show i < fn.ntmps; omega, ?_⟩
    have : (vals.toArray ++ Array.replicate (fn.ntmps - vals.toArray.size) undef).getD i undef = u := by
      rw [Array.getD_eq_getD_getElem?, Array.getElem?_append_left (by simpa using hi)]
      simp [h6]
    rw [this]; exact h7
  · intro a' w' φ' S' h5 h6 h7 _
    obtain ⟨u, h8, h9⟩ := results_sound (P := P) h3 h5 h7
    have hfin : a'.defers = [] ∧ ∃ v, (results fn a'.tmps).run P w' = .ok v w' ∧ Gives s.hp H.length B φ S w (oneOrTup vs) (.returned v) w' :=
      ⟨h7.2.1, u, h8, u, φ', S', rfl, h5, h6, h9⟩
    rcases h2 with rfl | rfl
    · exact hfin
    · exact hfin

/-- The evaluator is sound at every depth. -/
theorem evalF_sound (hS : Static P h) (hP : PrimSound P h) : ∀ n, Good P h (evalF P h n) ∧ ExSound P h (evalF P h n) ∧ ExLen (evalF P h n)
  | 0 => ⟨⟨fun f args H v H' hr => (by cases hr), hP, fun f args H v H' hr => (by cases hr), fun f hf => hf.elim (fun ⟨_, _, _, hr⟩ => (by cases hr)) (hS.prims f)⟩,
      fun c code s e s' hst => (by cases hst), fun c code s e s' hst => by cases hst⟩
  | n + 1 => by
    obtain ⟨h1, h2, h3⟩ := evalF_sound hS hP n
    refine ⟨⟨rn_step hS h2, hP, ?_, ?_⟩, ex_step hS h1 h2, exlen_step h1 h3⟩
    · intro f args H v H' hr
      obtain ⟨fn, code, e, s, vs, hok, hf, hb, hn, h4, h5, h6, rfl, rfl⟩ := rn_spec hr
      exact h3 _ _ _ _ _ h4 (Nat.le_refl _)
    · rintro f (⟨args, H, ⟨v, H'⟩, hr⟩ | hp)
      · obtain ⟨fn, code, e, s, vs, hok, _⟩ := rn_spec hr
        exact fnChk_ok (hS.fns f hok)
      · exact hS.prims f hp
end
end Go.Am
