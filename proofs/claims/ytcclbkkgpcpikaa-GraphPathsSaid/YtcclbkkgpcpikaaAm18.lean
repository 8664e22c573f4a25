/-
  Regions that draw the order of their operations: every order comes to what the order of the text comes to.
-/
import Derived.Test.YtcclbkkgpcpikaaAm17
set_option linter.unusedSimpArgs false
set_option linter.unusedVariables false
namespace Go.Am
open Go.RowKit

section
variable {P : Program} {h : Hints} {E : Ev} {w : World} {φ : Phi} {S : Nat → Prop} {B : Nat} {N : Nat} {ops : Array Oper} {ls : List Nat} {a : Act} {Q : Exit → Act → World → Prop}

theorem stepOpsL_uncons {o : Oper} {l : List Oper} {i : Nat} {acc : List (Oper × List (Nat × PV) × PV)} {s s' : St} (h1 : stepOpsL P h E N ops ls (o :: l) i acc s = some s') :
    ∃ s1, stepE P h E N ops ls i o s = some s1 ∧ ((has i ls = true ∧ ∃ acc', addL P h E ops o s acc = some acc' ∧ stepOpsL P h E N ops ls l (i + 1) acc' s1 = some s') ∨ (has i ls = false ∧ again P h E acc s1.hp = some () ∧ stepOpsL P h E N ops ls l (i + 1) acc s1 = some s')) := by
  have h2 : ((stepE P h E N ops ls i o s).bind fun s1 => bif has i ls then (addL P h E ops o s acc).bind fun acc' => stepOpsL P h E N ops ls l (i + 1) acc' s1 else (again P h E acc s1.hp).bind fun _ => stepOpsL P h E N ops ls l (i + 1) acc s1) = some s' := h1
  obtain ⟨s1, h3, h4⟩ := bind1 h2
  refine ⟨s1, h3, ?_⟩
  cases hh : has i ls with
  | true => rw [hh, cond_true] at h4; exact .inl ⟨rfl, bind1 h4⟩
  | false =>
    rw [hh, cond_false] at h4
    obtain ⟨u, h5, h6⟩ := bind1 h4
    exact .inr ⟨rfl, h5, h6⟩
theorem samePV_eq {u v : PV} (hs : samePV u v = true) : u = v := by
  unfold samePV at hs
  split at hs
  · simp only [Bool.and_eq_true, decide_eq_true_eq] at hs; obtain ⟨rfl, rfl⟩ := hs; rfl
  · simp only [beq_iff_eq] at hs; subst hs; rfl
  · simp only [Bool.and_eq_true, Nat.beq_eq] at hs; obtain ⟨⟨⟨rfl, rfl⟩, rfl⟩, rfl⟩ := hs; rfl
  · simp only [Bool.and_eq_true, Nat.beq_eq] at hs; obtain ⟨⟨rfl, rfl⟩, rfl⟩ := hs; rfl
  · rfl
  · rfl
  · cases hs
theorem again_spec {H : List Mem} : ∀ {acc : List (Oper × List (Nat × PV) × PV)}, again P h E acc H = some () → ∀ x ∈ acc, lightOp P h E H (ev x.2.1) x.1 = some x.2.2
  | [], _, x, hx => by cases hx
  | y :: acc, ha, x, hx => by
    have ha' : ((lightOp P h E H (ev y.2.1) y.1).bind fun v => bif samePV v y.2.2 then again P h E acc H else none) = some () := ha
    obtain ⟨v, hv, ha'⟩ := bind1 ha'
    cases hb : samePV v y.2.2 with
    | false => rw [hb, cond_false] at ha'; cases ha'
    | true =>
      rw [hb, cond_true] at ha'
      rcases List.mem_cons.1 hx with rfl | hx
      · rw [hv, samePV_eq hb]
      · exact again_spec ha' x hx
theorem addL_spec {o : Oper} {s : St} {acc acc' : List (Oper × List (Nat × PV) × PV)} (ha : addL P h E ops o s acc = some acc') :
    (wants ops s.tm o = some true ∧ ∃ v, lightOp P h E s.hp (ev s.tm) o = some v ∧ acc' = (o, s.tm, v) :: acc) ∨ (wants ops s.tm o = some false ∧ acc' = acc) := by
  unfold addL at ha
  obtain ⟨b, hb, ha⟩ := bind1 ha
  cases b with
  | true =>
    rw [cond_true] at ha
    cases hl : lightOp P h E s.hp (ev s.tm) o with
    | none => rw [hl] at ha; cases ha
    | some v => rw [hl] at ha; cases ha; exact .inl ⟨hb, v, rfl, rfl⟩
  | false => rw [cond_false] at ha; cases ha; exact .inr ⟨hb, rfl⟩
theorem stepE_light {i : Nat} {o : Oper} {s s' : St} (hi : has i ls = true) (hst : stepE P h E N ops ls i o s = some s') : s'.hp = s.hp := by
  unfold stepE at hst
  rw [hi, cond_true] at hst
  unfold stepL at hst
  obtain ⟨b, _, hst⟩ := bind1 hst
  cases b with
  | true =>
    rw [cond_true] at hst
    obtain ⟨v, _, hst⟩ := bind1 hst
    cases hp : putT N o.dst v s.tm with
    | none => rw [hp] at hst; cases hst
    | some tm => rw [hp] at hst; cases hst; rfl
  | false =>
    rw [cond_false] at hst
    cases hp : putT N o.dst (.tup []) s.tm with
    | none => rw [hp] at hst; cases hst
    | some tm => rw [hp] at hst; cases hst; rfl

theorem trace : ∀ (l : List Oper) (i : Nat) (acc : List (Oper × List (Nat × PV) × PV)) (st st' : St), ops.toList.drop i = l → i ≤ ops.size → stepOpsL P h E N ops ls l i acc st = some st' →
    (∀ x ∈ acc, lightOp P h E st.hp (ev x.2.1) x.1 = some x.2.2) →
    ∃ s : Nat → St, s i = st ∧ s ops.size = st' ∧ (∀ j o, i ≤ j → ops[j]? = some o → stepE P h E N ops ls j o (s j) = some (s (j + 1))) ∧
      (∀ x ∈ acc, ∀ m, i ≤ m → m ≤ ops.size → lightOp P h E (s m).hp (ev x.2.1) x.1 = some x.2.2) ∧
      (∀ j o v, i ≤ j → ops[j]? = some o → has j ls = true → wants ops (s j).tm o = some true → lightOp P h E (s j).hp (ev (s j).tm) o = some v → ∀ m, j ≤ m → m ≤ ops.size → lightOp P h E (s m).hp (ev (s j).tm) o = some v)
  | [], i, acc, st, st', hl, hi, hst, hacc => by
    have hsi : ops.size ≤ i := by
      have := List.drop_eq_nil_iff.1 hl
      simpa using this
    cases hst
    refine ⟨fun _ => st, rfl, rfl, fun j o hj ho => ?_, fun x hx m _ _ => hacc x hx, fun j o v hj ho => ?_⟩
    · have := (Array.getElem?_eq_some_iff.1 ho).1
      omega
    · have := (Array.getElem?_eq_some_iff.1 ho).1
      omega
  | o :: l, i, acc, st, st', hl, hi, hst, hacc => by
    have hlt : i < ops.size := by
      rcases Nat.lt_or_ge i ops.size with h | h
      · exact h
      · rw [List.drop_eq_nil_of_le (by simpa using h)] at hl; cases hl
    have ho : ops[i]? = some o := by
      have : (ops.toList.drop i)[0]? = some o := by rw [hl]; rfl
      rw [List.getElem?_drop] at this
      simpa using this
    obtain ⟨s1, h1, h2⟩ := stepOpsL_uncons hst
    have main : ∃ acc', (∀ x ∈ acc, x ∈ acc') ∧ (has i ls = true → wants ops st.tm o = some true → ∀ v, lightOp P h E st.hp (ev st.tm) o = some v → (o, st.tm, v) ∈ acc') ∧ (∀ x ∈ acc', lightOp P h E s1.hp (ev x.2.1) x.1 = some x.2.2) ∧ stepOpsL P h E N ops ls l (i + 1) acc' s1 = some st' := by
      rcases h2 with ⟨h3, acc', h4, h5⟩ | ⟨h3, h4, h5⟩
      · refine ⟨acc', ?_, ?_, ?_, h5⟩
        · intro x hx
          rcases addL_spec h4 with ⟨_, v, _, rfl⟩ | ⟨_, rfl⟩
          · exact List.mem_cons_of_mem _ hx
          · exact hx
        · intro _ hw v hv
          rcases addL_spec h4 with ⟨_, v', hv', rfl⟩ | ⟨hw', _⟩
          · rw [hv] at hv'; cases hv'; exact List.mem_cons_self
          · rw [hw] at hw'; cases hw'
        · rw [stepE_light h3 h1]
          intro x hx
          rcases addL_spec h4 with ⟨_, v, hv, rfl⟩ | ⟨_, rfl⟩
          · rcases List.mem_cons.1 hx with rfl | hx
            · exact hv
            · exact hacc x hx
          · exact hacc x hx
      · exact ⟨acc, fun _ h => h, fun h => (by rw [h3] at h; cases h), again_spec h4, h5⟩
    obtain ⟨acc', ha1, ha2, ha3, ha4⟩ := main
    obtain ⟨s, e1, e2, e3, e4, e5⟩ := trace l (i + 1) acc' s1 st' (by rw [← List.drop_drop, hl]; rfl) hlt ha4 ha3
    have hs : ∀ m, i + 1 ≤ m → (if m ≤ i then st else s m) = s m := fun m hm => if_neg (by omega)
    refine ⟨fun j => if j ≤ i then st else s j, by simp, by simp only [if_neg (Nat.not_le.2 hlt)]; exact e2, fun j x hj hx => ?_, fun x hx m hm hm' => ?_, fun j x v hj hx hb hw hv m hm hm' => ?_⟩
    · by_cases hji : j = i
      · subst hji
        rw [ho] at hx; cases hx
        simp only [Nat.le_refl, if_true, if_neg (show ¬ j + 1 ≤ j by omega), e1]
        exact h1
      · simp only [if_neg (show ¬ j ≤ i by omega), if_neg (show ¬ j + 1 ≤ i by omega)]
        exact e3 j x (by omega) hx
    · by_cases hmi : m = i
      · subst hmi
        simp only [Nat.le_refl, if_true]
        exact hacc x hx
      · simp only [hs m (by omega)]
        exact e4 x (ha1 x hx) m (by omega) hm'
    · by_cases hji : j = i
      · subst hji
        rw [ho] at hx; cases hx
        simp only [Nat.le_refl, if_true] at hv hw ⊢
        by_cases hmj : m = j
        · subst hmj
          simp only [Nat.le_refl, if_true]
          exact hv
        · simp only [hs m (by omega)]
          exact e4 _ (ha2 hb hw v hv) m (by omega) hm'
      · simp only [hs j (by omega)] at hv hw ⊢
        simp only [hs m (by omega)]
        exact e5 j x v (by omega) hx hb hw hv m hm hm'

/-- What a step comes to. -/
structure At (P : Program) (h : Hints) (E : Ev) (N : Nat) (ops : Array Oper) (ls : List Nat) (i : Nat) (o : Oper) (st st' : St) (v : PV) : Prop where
  put : putT N o.dst v st.tm = some st'.tm
  kind : (wants ops st.tm o = some false ∧ v = .tup [] ∧ st'.hp = st.hp) ∨
    (wants ops st.tm o = some true ∧ has i ls = true ∧ lightOp P h E st.hp (ev st.tm) o = some v ∧ st'.hp = st.hp) ∨
    (wants ops st.tm o = some true ∧ has i ls = false ∧ opA P h E st.hp (ev st.tm) o = some (v, st'.hp))
theorem map_mk {x : Option (List (Nat × PV))} {hp : List Mem} {st : St} (hx : x.map (fun tm => (⟨tm, hp⟩ : St)) = some st) : x = some st.tm ∧ st.hp = hp := by
  cases x with
  | none => simp at hx
  | some y => simp at hx; subst hx; exact ⟨rfl, rfl⟩
theorem stepE_at {i : Nat} {o : Oper} {st st' : St} (hst : stepE P h E N ops ls i o st = some st') : ∃ v, At P h E N ops ls i o st st' v := by
  unfold stepE at hst
  cases hl : has i ls with
  | true =>
    rw [hl, cond_true] at hst
    unfold stepL at hst
    obtain ⟨b, hb, hst⟩ := bind1 hst
    cases b with
    | true =>
      rw [cond_true] at hst
      obtain ⟨v, hv, hst⟩ := bind1 hst
      obtain ⟨h1, h2⟩ := map_mk hst
      exact ⟨v, h1, .inr (.inl ⟨hb, hl, hv, h2⟩)⟩
    | false =>
      rw [cond_false] at hst
      obtain ⟨h1, h2⟩ := map_mk hst
      exact ⟨_, h1, .inl ⟨hb, rfl, h2⟩⟩
  | false =>
    rw [hl, cond_false] at hst
    unfold stepOp at hst
    obtain ⟨b, hb, hst⟩ := bind1 hst
    cases b with
    | true =>
      rw [cond_true] at hst
      obtain ⟨⟨v, H'⟩, hv, hst⟩ := bind1 hst
      obtain ⟨h1, h2⟩ := map_mk hst
      exact ⟨v, h1, .inr (.inr ⟨hb, hl, by rw [h2]; exact hv⟩)⟩
    | false =>
      rw [cond_false] at hst
      obtain ⟨h1, h2⟩ := map_mk hst
      exact ⟨_, h1, .inl ⟨hb, rfl, h2⟩⟩

abbrev dstOf (ops : Array Oper) (i : Nat) : Option Tmp := (ops[i]?).bind (·.dst)
noncomputable abbrev kOf (h : Hints) (ls : List Nat) (ops : Array Oper) : Nat := firstW h ls ops.toList 0

/-- What is known of a run: the states, the values. -/
structure Tr (P : Program) (h : Hints) (E : Ev) (N : Nat) (ops : Array Oper) (ls : List Nat) (s : Nat → St) (v : Nat → PV) : Prop where
  at_ : ∀ i o, ops[i]? = some o → At P h E N ops ls i o (s i) (s (i + 1)) (v i)
  lt : ∀ j o u, ops[j]? = some o → has j ls = true → wants ops (s j).tm o = some true → lightOp P h E (s j).hp (ev (s j).tm) o = some u → ∀ m, j ≤ m → m ≤ ops.size → lightOp P h E (s m).hp (ev (s j).tm) o = some u

variable {s : Nat → St} {v : Nat → PV}
theorem Tr.op (_ : Tr P h E N ops ls s v) {i : Nat} (hi : i < ops.size) : ∃ o, ops[i]? = some o := ⟨ops[i], by simp [hi]⟩
theorem Tr.len1 (T : Tr P h E N ops ls s v) (hG : Good P h E) {i : Nat} (hi : i < ops.size) : (s i).hp.length ≤ (s (i + 1)).hp.length := by
  obtain ⟨o, ho⟩ := T.op hi
  rcases (T.at_ i o ho).kind with ⟨_, _, e⟩ | ⟨_, _, _, e⟩ | ⟨_, _, e⟩
  · rw [e]; exact Nat.le_refl _
  · rw [e]; exact Nat.le_refl _
  · exact opA_len hG e
theorem Tr.len (T : Tr P h E N ops ls s v) (hG : Good P h E) {i : Nat} : ∀ j, i ≤ j → j ≤ ops.size → (s i).hp.length ≤ (s j).hp.length
  | 0, h, _ => by rw [show i = 0 from by omega]; exact Nat.le_refl _
  | j + 1, h, hj => by
    by_cases hij : i = j + 1
    · subst hij; exact Nat.le_refl _
    · exact Nat.le_trans (T.len hG j (by omega) (by omega)) (T.len1 hG (by omega))
theorem Tr.light (T : Tr P h E N ops ls s v) {i : Nat} (hi : i < ops.size) (hl : has i ls = true) : (s (i + 1)).hp = (s i).hp := by
  obtain ⟨o, ho⟩ := T.op hi
  rcases (T.at_ i o ho).kind with ⟨_, _, e⟩ | ⟨_, _, _, e⟩ | ⟨_, e, _⟩
  · exact e
  · exact e
  · rw [hl] at e; cases e
theorem Tr.lights (T : Tr P h E N ops ls s v) {i : Nat} : ∀ j, i ≤ j → j ≤ ops.size → (∀ x, i ≤ x → x < j → has x ls = true) → (s j).hp = (s i).hp
  | 0, h, _, _ => by rw [show i = 0 from by omega]
  | j + 1, h, hj, hx => by
    by_cases hij : i = j + 1
    · subst hij; rfl
    · rw [T.light (by omega) (hx j (by omega) (by omega))]
      exact T.lights j (by omega) (by omega) fun x h1 h2 => hx x h1 (by omega)
theorem kOf_le : kOf h ls ops ≤ ops.size := by have := (firstW_spec h ls ops.toList 0).2.1; simpa using this
theorem kOf_W {i : Nat} {o : Oper} (ho : ops[i]? = some o) (hi : i < kOf h ls ops) (hl : has i ls = false) : isW h o = false :=
  (firstW_spec h ls ops.toList 0).2.2 i o (by simpa using ho) (by simpa using hi) (by simpa using hl)
theorem Tr.frz1 (T : Tr P h E N ops ls s v) {i : Nat} (hi : i < kOf h ls ops) : Frz (s i).hp (s (i + 1)).hp := by
  obtain ⟨o, ho⟩ := T.op (Nat.lt_of_lt_of_le hi kOf_le)
  rcases (T.at_ i o ho).kind with ⟨_, _, e⟩ | ⟨_, _, _, e⟩ | ⟨_, e1, e⟩
  · rw [e]; exact Frz.refl _
  · rw [e]; exact Frz.refl _
  · rw [opA_R (kOf_W ho hi e1)] at e
    unfold outR at e
    cases hr : opR P h E (s i).hp (s i).hp.length (ev (s i).tm) o with
    | none => simp [hr] at e
    | some x =>
      obtain ⟨q, ms, fz⟩ := x
      simp only [hr, Option.map_some, Option.some.injEq, Prod.mk.injEq] at e
      rw [← e.2]
      exact (freeze_frz _ _).trans (Frz.app _ _)
theorem Tr.frz (T : Tr P h E N ops ls s v) {i : Nat} : ∀ j, i ≤ j → j ≤ kOf h ls ops → Frz (s i).hp (s j).hp
  | 0, h, _ => by rw [show i = 0 from by omega]; exact Frz.refl _
  | j + 1, h, hj => by
    by_cases hij : i = j + 1
    · subst hij; exact Frz.refl _
    · exact (T.frz j (by omega) (by omega)).trans (T.frz1 (by omega))
theorem putT_eq {d : Option Tmp} {u : PV} {tm tm' : List (Nat × PV)} (hp : putT N d u tm = some tm') : (∀ t, d = some t → t < N ∧ tm' = (t, u) :: tm) ∧ (d = none → tm' = tm) := by
  unfold putT at hp
  cases d with
  | none => simp at hp; exact ⟨by simp, fun _ => hp.symm⟩
  | some t =>
    simp only [] at hp
    obtain ⟨h1, h2⟩ := if_some hp
    cases h2
    exact ⟨fun t' e => by cases e; exact ⟨h1, rfl⟩, by simp⟩
theorem Tr.full (T : Tr P h E N ops ls s v) {D : Nat → Bool} : ∀ m, m ≤ ops.size → (∀ i, i < m → D i = true) → tmD D (dstOf ops) v (s 0).tm m = (s m).tm
  | 0, _, _ => rfl
  | m + 1, hm, hD => by
    obtain ⟨o, ho⟩ := T.op (i := m) hm
    have ih := T.full m (by omega) fun i hi => hD i (by omega)
    have hp := putT_eq (T.at_ m o ho).put
    simp only [tmD, hD m (by omega), dstOf, ho, Option.bind_some]
    cases hd : o.dst with
    | none => rw [(hp.2 hd)]; exact ih
    | some d => rw [(hp.1 d hd).2, ← ih]

/-- What holds while the operations of a set are done. -/
structure DInv (h : Hints) (N : Nat) (ops : Array Oper) (ls : List Nat) (s : Nat → St) (v : Nat → PV) (B : Nat) (φ0 : Phi) (S0 : Nat → Prop) (w0 : World) (D : Nat → Bool) (m : Nat) (φ : Phi) (S : Nat → Prop) (w : World) (a : Act) : Prop where
  tm : TRel φ w S N (tmD D (dstOf ops) v (s 0).tm ops.size) a
  le : kOf h ls ops ≤ m ∧ m ≤ ops.size
  inv : Inv φ (s m).hp w S B
  un : ∀ i, i < kOf h ls ops → has i ls = false → D i = false → ∀ id, (s i).hp.length ≤ id → id < (s (i + 1)).hp.length → φ id = none
  hi : ∀ i, m ≤ i → i < ops.size → has i ls = false → D i = false
  lo : ∀ i, kOf h ls ops ≤ i → i < m → has i ls = false → D i = true
  ph : m = kOf h ls ops ∨ ∀ i, i < kOf h ls ops → has i ls = false → D i = true
  evo : Evo (s 0).hp.length B φ0 S0 w0 φ S w

variable {φ0 : Phi} {S0 : Nat → Prop} {w0 : World} {D : Nat → Bool} {m : Nat}

theorem draw_step (hG : Good P h E) (hd : drawOk h ls ops = true) (T : Tr P h E N ops ls s v) (I : DInv h N ops ls s v B φ0 S0 w0 D m φ S w a) (hDc : Closed ops D) {j : Nat} {o : Oper} (ho : ops[j]? = some o) (hDj : D j = false)
    (hDc' : Closed ops fun i => D i || i == j) {K : Act → World → Prop} (hK : ∀ m' φ' S' w' a', DInv h N ops ls s v B φ0 S0 w0 (fun i => D i || i == j) m' φ' S' w' a' → K a' w') : wpOp P ops Q j K a w := by
  have hspec := drawOk_spec hd
  have hlt : j < ops.size := (Array.getElem?_eq_some_iff.1 ho).1
  have hne : ∀ i, i ≠ j → (D i || i == j) = D i := fun i hi => by simp [hi]
  have early : ∀ i x, i < j → ops[i]? = some x → D i = true ∨ (x.apart ops o = true ∧ (has i ls = true ∨ has j ls = true ∨ j < kOf h ls ops)) := by
    intro i x hij hx
    have := hspec.2 _ hDc' i j x o hij hx ho (by simp)
    rw [hne i (by omega)] at this
    exact this
  have late : ∀ i y, j < i → ops[i]? = some y → D i = true → o.apart ops y = true := by
    intro i y hij hy hDi
    rcases hspec.2 D hDc j i o y hij ho hy hDi with h1 | h1
    · rw [hDj] at h1; cases h1
    · exact h1.1
  have looks : ∀ t ∈ o.looksAt ops, get (tmD D (dstOf ops) v (s 0).tm ops.size) t = get (s j).tm t := by
    intro t ht
    have h1 : get (tmD D (dstOf ops) v (s 0).tm ops.size) t = get (tmD (fun i => decide (i < j)) (dstOf ops) v (s 0).tm ops.size) t := by
      refine tmD_congr t _ fun i hi hdt => ?_
      obtain ⟨x, hx⟩ := T.op hi
      have hdx : x.dst = some t := by simpa [dstOf, hx] using hdt
      rcases Nat.lt_trichotomy i j with h2 | h2 | h2
      · rcases early i x h2 hx with h3 | h3
        · simp [h3, h2]
        · exact absurd ht ((Oper.apart_spec h3.1).1 t hdx)
      · subst h2; simp [hDj]
      · cases hDi : D i with
        | false => simp; omega
        | true => exact absurd ht ((Oper.apart_spec (late i x h2 hx hDi)).2.2 t hdx)
    rw [h1, tmD_below (k := j) _ (by omega) (fun i h2 _ => by simp; omega), T.full j (by omega) (fun i h2 => by simp [h2])]
  have hput : ∀ t, get (tmD (fun i => D i || i == j) (dstOf ops) v (s 0).tm ops.size) t = get (match o.dst with | some d => (d, v j) :: tmD D (dstOf ops) v (s 0).tm ops.size | none => tmD D (dstOf ops) v (s 0).tm ops.size) t := by
    intro t
    cases hd : o.dst with
    | none => exact tmD_put0 (j := j) (by simp) (fun i hi => hne i hi) (by simp [dstOf, ho, hd]) t _
    | some d =>
      refine tmD_put (j := j) hDj (by simp) (fun i hi => hne i hi) (by simp [dstOf, ho, hd]) t _ hlt ?_
      intro i h1 h2 h3 h4
      obtain ⟨y, hy⟩ := T.op h2
      exact (Oper.apart_spec (late i y h1 hy h3)).2.1 d hd (by simpa [dstOf, hy] using h4)
  have hat := T.at_ j o ho
  have puts : ∀ {φ' : Phi} {S' : Nat → Prop} {w' : World} {u : Value}, TRel φ' w' S' N (tmD D (dstOf ops) v (s 0).tm ops.size) a → VRel φ' w' S' (v j) u → TRel φ' w' S' N (tmD (fun i => D i || i == j) (dstOf ops) v (s 0).tm ops.size) (a.put o.dst u) := by
    intro φ' S' w' u ht hv
    refine TRel.congr (putT_sound (tm' := match o.dst with | some d => (d, v j) :: tmD D (dstOf ops) v (s 0).tm ops.size | none => tmD D (dstOf ops) v (s 0).tm ops.size) ?_ ht hv) hput
    have hp := putT_eq hat.put
    unfold putT
    cases hd : o.dst with
    | none => rfl
    | some d => simp only [if_pos (hp.1 d hd).1]
  -- where the run stands behind it
  have next : ∀ {φ' : Phi} {S' : Nat → Prop} {w' : World} {a' : Act} (m' : Nat), m' = (if has j ls = true ∨ j < kOf h ls ops then m else j + 1) → TRel φ' w' S' N (tmD (fun i => D i || i == j) (dstOf ops) v (s 0).tm ops.size) a' → Inv φ' (s m').hp w' S' B → Evo (s 0).hp.length B φ S w φ' S' w' →
      (∀ i, i < kOf h ls ops → has i ls = false → D i = false → i ≠ j → ∀ id, (s i).hp.length ≤ id → id < (s (i + 1)).hp.length → φ' id = none) → K a' w' := by
    intro φ' S' w' a' m' hm' ht hI hE hun
    refine hK m' φ' S' w' a' ⟨ht, ?_, hI, ?_, ?_, ?_, ?_, I.evo.trans hE⟩
    · rw [hm']; have := I.le; split <;> omega
    · intro i h1 h2 h3
      have hij : i ≠ j := by rintro rfl; simp at h3
      rw [hne i hij] at h3
      exact hun i h1 h2 h3 hij
    · intro i h1 h2 h3
      have hle := I.le
      by_cases hc : has j ls = true ∨ j < kOf h ls ops
      · rw [if_pos hc] at hm'
        have hij : i ≠ j := by
          rintro rfl
          rcases hc with hc | hc
          · rw [h3] at hc; cases hc
          · omega
        show (D i || i == j) = false
        rw [hne i hij]
        exact I.hi i (by omega) h2 h3
      · rw [if_neg hc] at hm'
        show (D i || i == j) = false
        rw [hne i (by omega)]
        have hjk : kOf h ls ops ≤ j := by omega
        refine I.hi i ?_ h2 h3
        rcases Nat.lt_or_ge j m with h4 | h4
        · have := I.lo j hjk h4 (by cases hh : has j ls <;> simp_all)
          rw [hDj] at this; cases this
        · omega
    · intro i h1 h2 h3
      show (D i || i == j) = true
      by_cases hij : i = j
      · simp [hij]
      · rw [hne i hij]
        by_cases hc : has j ls = true ∨ j < kOf h ls ops
        · rw [if_pos hc] at hm'
          exact I.lo i h1 (by omega) h3
        · rw [if_neg hc] at hm'
          obtain ⟨x, hx⟩ := T.op (i := i) (by omega)
          rcases early i x (by omega) hx with h4 | ⟨_, h4⟩
          · exact h4
          · rcases h4 with h4 | h4
            · rw [h3] at h4; cases h4
            · exact absurd h4 hc
    · by_cases hc : has j ls = true ∨ j < kOf h ls ops
      · rw [if_pos hc] at hm'
        rcases I.ph with h1 | h1
        · exact .inl (by omega)
        · exact .inr fun i h2 h3 => by
            show (D i || i == j) = true
            simp [h1 i h2 h3]
      · refine .inr fun i h2 h3 => ?_
        show (D i || i == j) = true
        obtain ⟨x, hx⟩ := T.op (i := i) (by have := @kOf_le h ops ls; omega)
        rcases early i x (by omega) hx with h4 | ⟨_, h4⟩
        · simp [h4]
        · rcases h4 with h4 | h4
          · rw [h3] at h4; cases h4
          · exact absurd h4 hc
  -- the heap before an operation that is not light, from the first write on
  have same : has j ls = false → ¬ j < kOf h ls ops → (s j).hp = (s m).hp := by
    intro h1 h2
    have hmj : m ≤ j := by
      rcases Nat.lt_or_ge j m with h4 | h4
      · have := I.lo j (by omega) h4 h1
        rw [hDj] at this; cases this
      · exact h4
    refine T.lights j hmj (by omega) fun x h3 h4 => ?_
    cases hx : has x ls with
    | true => rfl
    | false =>
      have h5 := I.hi x h3 (by omega) hx
      obtain ⟨y, hy⟩ := T.op (i := x) (by omega)
      rcases early x y h4 hy with h6 | ⟨_, h6⟩
      · rw [h5] at h6; cases h6
      · rcases h6 with h6 | h6 | h6
        · rw [hx] at h6; cases h6
        · rw [h1] at h6; cases h6
        · exact absurd h6 h2
  have hlen0 : (s 0).hp.length ≤ (s m).hp.length := T.len hG m (by omega) I.le.2
  have hw := wants_looks (ops := ops) looks
  unfold wpOp
  simp only [ho]
  rcases hat.kind with ⟨h1, h2, h3⟩ | ⟨h1, h2, h3, h4⟩ | ⟨h1, h2, h3⟩
  · rw [wants_sound (hw.trans h1) I.tm]
    simp only [Bool.false_eq_true, if_false]
    refine next _ rfl (puts I.tm (by rw [h2]; exact undef_rel)) ?_ (Evo.refl _ _ _ _ _) (fun i h4 h5 h6 _ => I.un i h4 h5 h6)
    split
    · exact I.inv
    · rename_i hc
      rw [h3, same (by cases hh : has j ls <;> simp_all) (by omega)]
      exact I.inv
  · rw [wants_sound (hw.trans h1) I.tm]
    simp only [if_true]
    left
    have hjm : j ≤ m := Nat.le_of_lt (Nat.lt_of_lt_of_le (drawOk_light hd h2) I.le.1)
    have hl : lightOp P h E (s m).hp (ev (tmD D (dstOf ops) v (s 0).tm ops.size)) o = some (v j) := by rw [lightOp_congr (ev_looks looks)]; exact T.lt j o _ ho h2 h1 h3 m hjm I.le.2
    unfold lightOp at hl
    obtain ⟨⟨q, ms, fz⟩, hr, hl⟩ := bind1 hl
    split at hl
    · rename_i q' heq
      cases heq
      cases hl
      refine opR_wp hG I.inv I.tm hr (fun i m hm => by simp at hm) (fun id hid => by simp at hid) ?_
      intro u w' φ' S' h5 h6 h7 h8
      refine next m (by rw [if_pos (.inl h2)]) (puts (I.tm.evo h6 I.inv (Nat.le_refl _)) h7) h5 (h6.mono hlen0) ?_
      intro i h9 h10 h11 _ id h12 h13
      rw [h8 id (by simp)]
      exact I.un i h9 h10 h11 id h12 h13
    · cases hl
  · rw [wants_sound (hw.trans h1) I.tm]
    simp only [if_true]
    left
    rw [← opA_congr (ev_looks looks)] at h3
    by_cases hjk : j < kOf h ls ops
    · -- before the first write
      have hmk : m = kOf h ls ops := by
        rcases I.ph with h4 | h4
        · exact h4
        · have := h4 j hjk h2; rw [hDj] at this; cases this
      have hW := kOf_W ho hjk h2
      rw [opA_R hW] at h3
      unfold outR at h3
      cases hr : opR P h E (s j).hp (s j).hp.length (ev (tmD D (dstOf ops) v (s 0).tm ops.size)) o with
      | none => simp [hr] at h3
      | some x =>
        obtain ⟨q, ms, fz⟩ := x
        simp only [hr, Option.map_some, Option.some.injEq, Prod.mk.injEq] at h3
        obtain ⟨rfl, hhp⟩ := h3
        have hF1 : Frz (s (j + 1)).hp (s m).hp := by rw [hmk]; exact T.frz _ (by omega) (Nat.le_refl _)
        have hF0 : Frz (s j).hp (s m).hp := by rw [hmk]; exact T.frz _ (by omega) (Nat.le_refl _)
        have hl1 : (s (j + 1)).hp.length = (s j).hp.length + ms.length := by rw [← hhp]; simp [freeze_length]
        refine opR_wp hG I.inv I.tm (opR_mono hF0.sub hr) ?_ ?_ ?_
        · intro i x hx
          have hil := (List.getElem?_eq_some_iff.1 hx).1
          have h4 : (s (j + 1)).hp[(s j).hp.length + i]? = some x := by
            rw [← hhp, List.getElem?_append_right (by rw [freeze_length]; omega), freeze_length, show (s j).hp.length + i - (s j).hp.length = i from by omega]
            exact hx
          have h5 := I.un j hjk h2 hDj ((s j).hp.length + i) (by omega) (by omega)
          rcases hF1.2 _ _ h4 with h6 | ⟨es, z, b, rfl, h6⟩
          · exact ⟨x, h6, .inl rfl, h5⟩
          · exact ⟨_, h6, .inr ⟨es, z, b, rfl, rfl⟩, h5⟩
        · intro id hid l es z b hl hm
          have hid' := opR_fz hr id hid
          obtain ⟨m0, hm0⟩ : ∃ m0, (s j).hp[id]? = some m0 := ⟨(s j).hp[id], by simp [hid']⟩
          have hb : b = false := by
            obtain ⟨m1, hm1, hs1⟩ := freeze_sub fz (s j).hp id m0 hm0
            have h4 : (s (j + 1)).hp[id]? = some m1 := by rw [← hhp, List.getElem?_append_left (by rw [freeze_length]; exact hid')]; exact hm1
            rcases hF1.2 id m1 h4 with h5 | ⟨es', z', b', _, h5⟩
            · rw [hm] at h5; cases h5
              exact freeze_at fz _ id hid _ _ _ hm1
            · rw [hm] at h5; cases h5; rfl
          subst hb
          exact (I.inv.row id l es z false hl hm).frz rfl
        · intro u w' φ' S' h5 h6 h7 h8
          refine next m (by rw [if_pos (.inr hjk)]) (puts (I.tm.evo h6 I.inv (Nat.le_refl _)) h7) h5 (h6.mono hlen0) ?_
          intro i h9 h10 h11 h12 id h13 h14
          have : φ' id = φ id := by
            apply h8
            rcases Nat.lt_or_gt_of_ne h12 with h15 | h15
            · have := T.len hG (i := i + 1) j (by omega) (by omega)
              omega
            · have := T.len hG (i := j + 1) i (by omega) (by have := @kOf_le h ops ls; omega)
              omega
          rw [this]
          exact I.un i h9 h10 h11 id h13 h14
    · have hs := same h2 hjk
      have hc : ¬ (has j ls = true ∨ j < kOf h ls ops) := by simp [h2, hjk]
      refine opA_wp hG (by rw [hs]; exact I.inv) I.tm h3 ?_
      intro u w' φ' S' h4 h5 h6
      refine next (j + 1) (by rw [if_neg hc]) (puts (I.tm.evo h5 I.inv (by rw [hs]; exact Nat.le_refl _)) h6) h4 (h5.mono (by rw [hs]; exact hlen0)) ?_
      intro i h7 h8 h9 _
      obtain ⟨x, hx⟩ := T.op (i := i) (by have := @kOf_le h ops ls; omega)
      rcases early i x (by omega) hx with h10 | ⟨_, h10⟩
      · rw [h9] at h10; cases h10
      · rcases h10 with h10 | h10
        · rw [h8] at h10; cases h10
        · exact absurd h10 hc

theorem countP_set {l : List Nat} {p q : Nat → Bool} {j : Nat} (h : ∀ x, q x = true → p x = true) (hj : j ∈ l) (h1 : p j = true) (h2 : q j = false) : l.countP q < l.countP p := by
  induction l with
  | nil => simp at hj
  | cons x l ih =>
    rw [List.countP_cons, List.countP_cons]
    have hle : l.countP q ≤ l.countP p := List.countP_mono_left fun y _ hy => h y hy
    rcases List.mem_cons.1 hj with rfl | hj
    · simp [h1, h2]; omega
    · have := ih hj
      cases hq : q x with
      | false => simp; split <;> omega
      | true => simp [h x hq]; omega

theorem draw_any (hG : Good P h E) (hd : drawOk h ls ops = true) (T : Tr P h E N ops ls s v)
    (hQ : ∀ a' w' φ' S', Inv φ' (s ops.size).hp w' S' B → Evo (s 0).hp.length B φ0 S0 w0 φ' S' w' → TRel φ' w' S' N (s ops.size).tm a' → Q .normal a' w') :
    ∀ (fuel : Nat) (listed : Array Bool) (m : Nat) (φ : Phi) (S : Nat → Prop) (w : World) (a : Act), listed.size = ops.size → Closed ops (fun i => listed.getD i false) → DInv h N ops ls s v B φ0 S0 w0 (fun i => listed.getD i false) m φ S w a →
      (List.range ops.size).countP (fun i => !listed.getD i false) ≤ fuel → wpAny P .any ops Q fuel listed a w := by
  -- nothing is ready: all is done
  have done : ∀ (listed : Array Bool) (m : Nat) (φ : Phi) (S : Nat → Prop) (w : World) (a : Act), listed.size = ops.size → DInv h N ops ls s v B φ0 S0 w0 (fun i => listed.getD i false) m φ S w a → (∀ i, i < ops.size → listed.getD i false = true) → Q .normal a w := by
    intro listed m φ S w a hsz I hall
    have hhp : (s ops.size).hp = (s m).hp := by
      refine T.lights ops.size I.le.2 (Nat.le_refl _) fun x h1 h2 => ?_
      cases hx : has x ls with
      | true => rfl
      | false =>
        have := I.hi x h1 h2 hx
        have hall2 := hall x h2
        rw [show listed.getD x false = false from this] at hall2
        cases hall2
    have htm := T.full (D := fun i => listed.getD i false) ops.size (Nat.le_refl _) hall
    exact hQ a w φ S (by rw [hhp]; exact I.inv) I.evo (by rw [← htm]; exact I.tm)
  have all : ∀ (listed : Array Bool), listed.size = ops.size → Region.ready .any ops listed = [] → ∀ i, i < ops.size → listed.getD i false = true := by
    intro listed hsz hr i
    induction i using Nat.strongRecOn with
    | ind i ih =>
      intro hi
      cases hc : listed.getD i false with
      | true => rfl
      | false =>
        exfalso
        have hmem : i ∈ Region.ready .any ops listed := by
          rw [mem_ready]
          refine ⟨?_, ops[i], by simp [hi], fun e he hb => ?_⟩
          · have : i < listed.size := by omega
            simpa [this] using hc
          · have := (drawOk_spec hd).1 i ops[i] (by simp [hi]) e he hb
            exact ih e.on this (by omega)
        rw [hr] at hmem
        simp at hmem
  intro fuel
  induction fuel with
  | zero =>
    intro listed m φ S w a hsz hcl I hc
    have hall : ∀ i, i < ops.size → listed.getD i false = true := by
      intro i hi
      cases hx : listed.getD i false with
      | true => rfl
      | false =>
        have : 0 < (List.range ops.size).countP (fun i => !listed.getD i false) := List.countP_pos_iff.2 ⟨i, by simpa using hi, by simp only [hx, Bool.not_false]⟩
        omega
    refine ⟨?_, done listed m φ S w a hsz I hall⟩
    cases hr : Region.ready .any ops listed with
    | nil => rfl
    | cons x r =>
      have hx : x ∈ Region.ready .any ops listed := by rw [hr]; exact List.mem_cons_self
      obtain ⟨h1, o, ho, _⟩ := mem_ready.1 hx
      have hlt := (Array.getElem?_eq_some_iff.1 ho).1
      have h2 := hall x hlt
      have h3 : x < listed.size := by omega
      simp [h3] at h1 h2
      rw [h1] at h2; cases h2
  | succ fuel ih =>
    intro listed m φ S w a hsz hcl I hc
    refine ⟨fun hr => done listed m φ S w a hsz I (all listed hsz hr), fun j hj => ?_⟩
    obtain ⟨h1, o, ho, hall⟩ := mem_ready.1 hj
    have hlt := (Array.getElem?_eq_some_iff.1 ho).1
    have hjl : j < listed.size := by omega
    have hDj : listed.getD j false = false := by simpa [hjl] using h1
    have hset : (fun i => (listed.setIfInBounds j true).getD i false) = fun i => listed.getD i false || i == j := by
      funext i
      by_cases hij : i = j
      · subst hij; simp [hjl]
      · rw [getD_set_ne false (fun e => hij e.symm)]; simp [hij]
    have hcl' : Closed ops fun i => listed.getD i false || i == j := by
      intro x y hy hx e he hb
      show (listed.getD e.on false || e.on == j) = true
      have hx' : (listed.getD x false || x == j) = true := hx
      by_cases hxj : x = j
      · subst hxj
        rw [ho] at hy; cases hy
        simp only [hall e he hb, Bool.true_or]
      · have : listed.getD x false = true := by simpa only [show (x == j) = false from by simpa using hxj, Bool.or_false] using hx'
        have := hcl x y hy this e he hb
        simp only [show listed.getD e.on false = true from this, Bool.true_or]
    refine draw_step hG hd T I hcl ho hDj hcl' ?_
    intro m' φ' S' w' a' I'
    refine ih _ m' φ' S' w' a' (by simpa using hsz) (by rw [hset]; exact hcl') (by rw [hset]; exact I') ?_
    have : (List.range ops.size).countP (fun i => !(listed.setIfInBounds j true).getD i false) < (List.range ops.size).countP (fun i => !listed.getD i false) := by
      refine countP_set (j := j) (fun x hx => ?_) (by simpa using hlt) (by simp only [hDj, Bool.not_false]) ?_
      · rw [show (listed.setIfInBounds j true).getD x false = (listed.getD x false || x == j) from congrFun hset x] at hx
        cases hxx : listed.getD x false with
        | true => simp only [hxx, Bool.true_or, Bool.not_true] at hx; cases hx
        | false => rfl
      · rw [show (listed.setIfInBounds j true).getD j false = (listed.getD j false || j == j) from congrFun hset j]
        simp
    omega

/-- A row of operations in any order. -/
theorem draw_wp (hG : Good P h E) (hd : drawOk h ls ops = true) {s0 s' : St} (hst : stepOpsL P h E N ops ls ops.toList 0 [] s0 = some s') (hI : Inv φ s0.hp w S B) (ht : TRel φ w S N s0.tm a)
    (hQ : ∀ a' w' φ' S', Inv φ' s'.hp w' S' B → Evo s0.hp.length B φ S w φ' S' w' → TRel φ' w' S' N s'.tm a' → Q .normal a' w') : wpAny P .any ops Q ops.size (Array.replicate ops.size false) a w := by
  obtain ⟨s, rfl, rfl, hs, _, hlt⟩ := trace ops.toList 0 [] s0 s' rfl (Nat.zero_le _) hst (by simp)
  have hv : ∀ i, ∃ u, ∀ o, ops[i]? = some o → At P h E N ops ls i o (s i) (s (i + 1)) u := by
    intro i
    cases ho : ops[i]? with
    | none => exact ⟨.nilp, by simp⟩
    | some o =>
      obtain ⟨u, hu⟩ := stepE_at (hs i o (Nat.zero_le _) ho)
      exact ⟨u, fun o' ho' => by cases ho'; exact hu⟩
  obtain ⟨v, hv⟩ := Classical.axiomOfChoice hv
  have T : Tr P h E N ops ls s v := ⟨fun i o ho => hv i o ho, fun j o u ho hb hw hl m hm hm' => hlt j o u (Nat.zero_le _) ho hb hw hl m hm hm'⟩
  obtain ⟨S1, h1, h2⟩ := hI.frz (T.frz (i := 0) (kOf h ls ops) (Nat.zero_le _) (Nat.le_refl _))
  have hfalse : (fun i => (Array.replicate ops.size false).getD i false) = fun _ => false := by
    funext i
    by_cases hi : i < ops.size <;> simp [hi]
  have hlen := T.len hG (i := 0) (kOf h ls ops) (Nat.zero_le _) kOf_le
  refine draw_any hG hd T (φ0 := φ) (S0 := S) (w0 := w) hQ ops.size _ (kOf h ls ops) φ S1 w a (by simp) (by rw [hfalse]; intro j o _ h; cases h) ?_ (Nat.le_trans List.countP_le_length (by simp))
  rw [hfalse]
  refine ⟨?_, ⟨Nat.le_refl _, kOf_le⟩, h1, ?_, fun _ _ _ _ => rfl, fun i h3 h4 => by omega, .inl rfl, h2⟩
  · rw [tmD_below (k := 0) _ (Nat.zero_le _) fun _ _ _ => rfl]
    exact ht.evo h2 hI (Nat.le_refl _)
  · intro i h3 _ _ id h4 _
    cases hc : φ id with
    | none => rfl
    | some l =>
      have := (hI.live id l hc).2.2
      have := T.len hG (i := 0) i (Nat.zero_le _) (by have := @kOf_le h ops ls; omega)
      omega
end
end Go.Am
