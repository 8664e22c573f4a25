/-
  The program logic: code, loops, functions.
-/
import Derived.Test.YtnfgnkbgajhhbaaGreatDoorTx6
set_option linter.constructorNameAsVariable false
set_option linter.unusedSimpArgs false
set_option linter.unusedVariables false
namespace Go.Tx
open Go.Am
section
variable {P : Program} {h : Hints} {T : TypeId → TI} {φ : Ph} {hp : List SM} {tm : TM} {F : Nat}
theorem getS_cons (i d : Nat) (V : SV) (tm : TM) : getS i ((d, V) :: tm) = bif Nat.beq i d then some V else getS i tm := rfl
theorem SRep.put {st : St} (hs : SRep φ tm hp st) {V : SV} {q : PV} (hq : RV φ V q) (d : Nat) : SRep φ ((d, V) :: tm) hp ⟨(d, q) :: st.tm, st.hp⟩ := by
  refine ⟨fun i W hW => ?_, hs.hp⟩
  rw [getS_cons] at hW
  show ∃ q', (bif Nat.beq i d then some q else Am.get st.tm i) = some q' ∧ _
  cases hb : Nat.beq i d with
  | true =>
    rw [hb] at hW
    cases hW
    exact ⟨q, rfl, hq⟩
  | false =>
    rw [hb] at hW
    exact hs.tm i W hW
theorem SRep.mono {st : St} (hs : SRep φ tm hp st) {φ' : Ph} (hl : Le φ φ') {hp' : List SM} {H' : List Mem} (hh : RH φ' hp' (fun a => H'[a]?)) : SRep φ' tm hp' ⟨st.tm, H'⟩ :=
  ⟨fun i V hV => by obtain ⟨q, h1, h2⟩ := hs.tm i V hV; exact ⟨q, h1, RV.mono hl V q h2⟩, hh⟩
theorem SRep.ev {st : St} (hs : SRep φ tm hp st) : EvOK φ tm (ev st.tm) := by
  have scal : ∀ v V, ofScalT v = some V → ∃ q, ofScal v = some q ∧ RV φ V q := by
    intro v V hv
    unfold ofScalT at hv
    split at hv <;> first
      | (cases hv; exact ⟨.nilp, rfl, by simp only [RV]⟩)
      | (cases hv; exact ⟨.nils, rfl, by simp only [RV]⟩)
      | (cases hv; exact ⟨.nilf, rfl, by simp only [RV]⟩)
      | (cases hv; exact ⟨.nili, rfl, by simp only [RV]⟩)
      | (cases hv; exact ⟨_, rfl, vb _⟩)
      | (cases hv; exact ⟨_, rfl, vi _ _⟩)
      | (cases hv; exact ⟨_, rfl, vs' _⟩)
      | (cases hv; done)
  intro x V hx
  cases x with
  | tmp t => exact hs.tm t V hx
  | const v =>
    change ofValT v = some V at hx
    show ∃ q, ofVal v = some q ∧ _
    unfold ofValT at hx
    split at hx
    · rename_i cs
      have lst : ∀ (l : List Value) (Vs : List SV), ofScalsT l = some Vs → ∃ qs, omap ofScal l = some qs ∧ RL φ Vs qs := by
        intro l
        induction l with
        | nil => intro Vs h; cases h; exact ⟨[], rfl, by simp only [RL]⟩
        | cons v r ih =>
          intro Vs h
          simp only [ofScalsT] at h
          split at h
          · rename_i x hx
            split at h
            · rename_i y hy
              cases h
              obtain ⟨q, h1, h2⟩ := scal v x hx
              obtain ⟨qs, h3, h4⟩ := ih y hy
              exact ⟨q :: qs, by rw [omap_cons', h1, h3]; rfl, by simp only [RL]; exact ⟨_, _, rfl, h2, h4⟩⟩
            · cases h
          · cases h
      split at hx
      · rename_i l hl
        cases hx
        obtain ⟨qs, h1, h2⟩ := lst _ _ hl
        exact ⟨.agg qs, by simp only [ofVal, h1, Option.map_some], by simp only [RV]; exact ⟨_, rfl, h2⟩⟩
      · cases hx
    · rename_i hna
      have e : ofVal v = ofScal v := by cases v <;> first | rfl | exact absurd rfl (hna _)
      rw [e]
      exact scal v V hx
  | global g => cases hx
  | func f =>
    cases hx
    exact ⟨.func f [] [], rfl, by simp only [RV, RL]; exact ⟨_, _, rfl, rfl, rfl⟩⟩
theorem putS_ok {st : St} (hs : SRep φ tm hp st) {V : SV} {q : PV} (hq : RV φ V q) {N : Nat} {dst : Option Tmp} {k : TM → Prop} (hk : putS N dst V tm k) : ∃ tm0 tm', putT N dst q st.tm = some tm0 ∧ SRep φ tm' hp ⟨tm0, st.hp⟩ ∧ k tm' := by
  unfold putS at hk
  split at hk
  · exact ⟨st.tm, tm, rfl, hs, hk⟩
  · rename_i d
    split at hk
    · rename_i hb
      have hb : d + 1 ≤ N := Nat.le_of_ble_eq_true hb
      exact ⟨(d, q) :: st.tm, (d, V) :: tm, if_pos (Nat.lt_of_succ_le hb), hs.put hq d, hk⟩
    · cases hk
theorem wpOps_ok (hT : TysOK P T) {N : Nat} {ds : List (Option Tmp)} : ∀ (l : List Oper) (tm : TM) (hp : List SM) (k : TM → List SM → Prop) (φ : Ph) (st : St), wpOps P h T N ds l tm hp k → SRep φ tm hp st →
    ∃ st' φ' tm' hp', runOps P h (lim P h) N ds l st = some st' ∧ Le φ φ' ∧ SRep φ' tm' hp' st' ∧ k tm' hp'
  | [], tm, hp, k, φ, st, hw, hs => ⟨st, φ, tm, hp, rfl, Le.refl φ, hs, hw⟩
  | ⟨dst, op, ty, pos, after, g⟩ :: l, tm, hp, k, φ, ⟨t0, H⟩, hw, hs => by
    have run : opT P h T op tm hp (fun V hp' => putS N dst V tm fun tm' => wpOps P h T N ds l tm' hp' k) → ∃ st' φ' tm' hp', runK P h (lim P h) N ds dst l t0 (opE P h (lim P h) H (ev t0) op) = some st' ∧ Le φ φ' ∧ SRep φ' tm' hp' st' ∧ k tm' hp' := by
      intro ho
      obtain ⟨q, H', φ1, V, hp1, h1, h2, h3, h4, h5⟩ := opT_ok hT hs.hp hs.ev ho
      have hs1 := hs.mono h2 h3
      obtain ⟨tm0, tm', h6, h7, h8⟩ := putS_ok hs1 h4 h5
      obtain ⟨st', φ', tm2, hp2, h9, h10, h11, h12⟩ := wpOps_ok hT l tm' hp1 k φ1 _ h8 h7
      refine ⟨st', φ', tm2, hp2, ?_, h2.trans h10, h11, h12⟩
      rw [h1]
      simp only [runK, Option.bind_some]
      rw [show putT N dst q t0 = some tm0 from h6]
      exact h9
    have skip : putS N dst (.tup []) tm (fun tm' => wpOps P h T N ds l tm' hp k) → ∃ st' φ' tm' hp', runK P h (lim P h) N ds dst l t0 (some (.tup [], H)) = some st' ∧ Le φ φ' ∧ SRep φ' tm' hp' st' ∧ k tm' hp' := by
      intro ho
      obtain ⟨tm0, tm', h6, h7, h8⟩ := putS_ok hs (V := .tup []) (q := .tup []) (by simp only [RV, RL]; exact ⟨_, rfl, rfl⟩) ho
      obtain ⟨st', φ', tm2, hp2, h9, h10, h11, h12⟩ := wpOps_ok hT l tm' hp k φ _ h8 h7
      refine ⟨st', φ', tm2, hp2, ?_, h10, h11, h12⟩
      simp only [runK, Option.bind_some]
      rw [show putT N dst (.tup []) t0 = some tm0 from h6]
      exact h9
    cases g with
    | none =>
      rw [run_op]
      exact run hw
    | some jw =>
      obtain ⟨j, w⟩ := jw
      rw [run_guard, want_eq]
      simp only [wpOps] at hw
      split at hw
      · rename_i d hd
        rw [nth_eq] at hd
        split at hw
        · rename_i t ht
          obtain ⟨q, h1, h2⟩ := hs.tm _ _ ht
          rw [rv_bool h2] at h1
          simp only [hd, Option.bind_some, id, show Am.get t0 d = _ from h1, wantV]
          cases hb : t == w with
          | true => rw [runG_true]; exact run (hw.1 (by simpa using hb))
          | false => rw [runG_false]; exact skip (hw.2 (by cases t <;> cases w <;> simp at hb ⊢))
        · rename_i ht
          obtain ⟨q, h1, h2⟩ := hs.tm _ _ ht
          simp only [RV, RL] at h2
          obtain ⟨_, rfl, rfl⟩ := h2
          simp only [hd, Option.bind_some, id, show Am.get t0 d = _ from h1, wantV]
          rw [runG_false]
          exact skip hw
        · cases hw
      · cases hw
theorem hasId_ne {id j : Nat} : ∀ {l : List Nat}, hasId id l = false → j ∈ l → id ≠ j
  | i :: r, h, hj => by
    simp only [hasId] at h
    split at h
    · cases h
    · rename_i hb
      rcases List.mem_cons.1 hj with rfl | hj
      · intro e; subst e; simp at hb
      · exact hasId_ne h hj
theorem allLive_at {j : Nat} : ∀ {l : List Nat}, allLive hp l = true → j ∈ l → liveAt hp j = true
  | i :: r, h, hj => by
    simp only [allLive, Bool.and_eq_true] at h
    rcases List.mem_cons.1 hj with rfl | hj
    · exact h.1
    · exact allLive_at h.2 hj
theorem liveAt_some {id : Nat} (h : liveAt hp id = true) : ∃ m, hp[id]? = some m ∧ live m = true := by
  unfold liveAt at h
  split at h
  · rename_i m hm
    rw [nth_eq] at hm
    exact ⟨m, hm, h⟩
  · cases h
theorem storeH_frame {H H' : List Mem} {t : TypeId} {a i r b : Nat} {x : PV} (hs : storeH P H t (.ptr a i r) x = some H') (hb : b ≠ a) : H'[b]? = H[b]? := by
  unfold storeH at hs
  simp only at hs
  split at hs
  · rename_i es z he
    cases hc : es[i]? with
    | none => simp [hc] at hs
    | some c =>
      cases hn : tsize P t with
      | none => simp [hc, hn] at hs
      | some n =>
        simp only [hc, hn, Option.bind_some] at hs
        split at hs
        · cases hs
          rw [List.getElem?_set_ne (Ne.symm hb)]
        · cases hs
  · cases hs
def Accs (P : Program) (φ : Ph) (ids : List Nat) (H : List Mem) (acc : List (Nat × Oper × List (Nat × PV) × PV)) : Prop :=
  ∀ x ∈ acc, ∃ dst t a ty pos after g id place i r, x.2.1 = ⟨dst, .load t a, ty, pos, after, g⟩ ∧ id ∈ ids ∧ φ[id]? = some (some place) ∧ Am.ev x.2.2.1 a = some (.ptr place i r) ∧ loadPV P H t (.ptr place i r) = some x.2.2.2
theorem again_of {ids : List Nat} {H : List Mem} : ∀ {acc : List (Nat × Oper × List (Nat × PV) × PV)}, Accs P φ ids H acc → again P h (lim P h) acc H = some ()
  | [], _ => rfl
  | (n, o, tm0, v) :: acc, ha => by
    obtain ⟨dst, t, a, ty, pos, after, g, id, place, i, r, h1, _, _, h4, h5⟩ := ha _ List.mem_cons_self
    simp only at h1 h4 h5
    subst h1
    rw [again_cons, light_load, h4]
    show againK P h (lim P h) acc H v (loadPV P H t (.ptr place i r)) = _
    rw [h5, againK_some _ _ _ _ (samePV_self v)]
    exact again_of fun x hx => ha x (List.mem_cons_of_mem _ hx)
theorem wpOpsL_ok (hT : TysOK P T) {N : Nat} {ls : List Nat} : ∀ (l : List Oper) (i : Nat) (ids : List Nat) (tm : TM) (hp : List SM) (k : TM → List SM → Prop) (φ : Ph) (st : St) (acc : List (Nat × Oper × List (Nat × PV) × PV)), wpOpsL P h T N ls l i ids tm hp k → noG l = true → SRep φ tm hp st → Accs P φ ids st.hp acc →
    ∃ st' φ' tm' hp', runL P h (lim P h) N ls l i acc st = some st' ∧ Le φ φ' ∧ SRep φ' tm' hp' st' ∧ k tm' hp'
  | [], i, ids, tm, hp, k, φ, st, acc, hw, _, hs, _ => ⟨st, φ, tm, hp, rfl, Le.refl φ, hs, hw⟩
  | ⟨dst, op, ty, pos, after, some g⟩ :: l, i, ids, tm, hp, k, φ, st, acc, hw, hg, hs, hacc => by cases hg
  | ⟨dst, op, ty, pos, after, none⟩ :: l, i, ids, tm, hp, k, φ, ⟨t0, H⟩, acc, hw, hg, hs, hacc => by
    have hg : noG l = true := hg
    simp only [wpOpsL] at hw
    split at hw
    · rename_i hi
      split at hw
      · rename_i t a
        split at hw
        · rename_i id j r hev
          obtain ⟨q, H', φ1, V, hp1, h1, h2, h3, h4, h5⟩ := opT_ok hT hs.hp hs.ev hw
          obtain ⟨p, hp1', hp2⟩ := hs.ev _ _ hev
          simp only [RV] at hp2
          obtain ⟨place, hpl, rfl⟩ := hp2
          have h1' : out0 H (aLoad P H t (Am.ev t0 a)) = some (q, H') := h1
          rw [show Am.ev t0 a = _ from hp1'] at h1'
          cases hq : loadPV P H t (.ptr place j r) with
          | none => simp [aLoad, hq, out0] at h1'
          | some v =>
            simp only [aLoad, Option.bind_some, hq, out0, Option.map_some, Option.some.injEq, Prod.mk.injEq] at h1'
            obtain ⟨rfl, rfl⟩ := h1'
            have hs1 := hs.mono h2 h3
            obtain ⟨tm0, tm', h6, h7, h8⟩ := putS_ok hs1 h4 h5
            obtain ⟨st', φ', tm2, hp2, h9, h10, h11, h12⟩ := wpOpsL_ok hT l (i + 1) (id :: ids) tm' hp1 k φ1 _ ((i, ⟨dst, .load t a, ty, pos, after, none⟩, t0, v) :: acc) h8 hg h7 (by
              intro x hx
              rcases List.mem_cons.1 hx with rfl | hx
              · exact ⟨dst, t, a, ty, pos, after, none, id, place, j, r, rfl, List.mem_cons_self, h2 _ _ hpl, hp1', hq⟩
              · obtain ⟨d', t', a', ty', pos', af', g', id', pl', i', r', e1, e2, e3, e4, e5⟩ := hacc x hx
                exact ⟨d', t', a', ty', pos', af', g', id', pl', i', r', e1, List.mem_cons_of_mem _ e2, h2 _ _ e3, e4, e5⟩)
            refine ⟨st', φ', tm2, hp2, ?_, h2.trans h10, h11, h12⟩
            rw [runL_light _ _ _ _ _ _ _ _ _ _ _ _ hi, light_load, show Am.ev t0 a = _ from hp1']
            simp only [aLoad, Option.bind_some, hq, runLL]
            rw [show putT N dst v t0 = some tm0 from h6]
            exact h9
        · cases hw
      · cases hw
    · rename_i hi
      have step : ∀ (ids : List Nat), opT P h T op tm hp (fun V hp' => putS N dst V tm fun tm' => wpOpsL P h T N ls l (i + 1) ids tm' hp' k) → (∀ (q : PV) (H' : List Mem) (φ1 : Ph), opE P h (lim P h) H (Am.ev t0) op = some (q, H') → Le φ φ1 → Accs P φ1 ids H' acc) →
          ∃ st' φ' tm' hp', runL P h (lim P h) N ls (⟨dst, op, ty, pos, after, none⟩ :: l) i acc ⟨t0, H⟩ = some st' ∧ Le φ φ' ∧ SRep φ' tm' hp' st' ∧ k tm' hp' := by
        intro ids ho ha
        obtain ⟨q, H', φ1, V, hp1, h1, h2, h3, h4, h5⟩ := opT_ok hT hs.hp hs.ev ho
        have ha := ha q H' φ1 h1 h2
        have hs1 := hs.mono h2 h3
        obtain ⟨tm0, tm', h6, h7, h8⟩ := putS_ok hs1 h4 h5
        have ha : Accs P φ1 ids H' (dropA h ⟨dst, op, ty, pos, after, none⟩ acc) := fun x hx => ha x (dropA_sub hx)
        obtain ⟨st', φ', tm2, hp2, h9, h10, h11, h12⟩ := wpOpsL_ok hT l (i + 1) ids tm' hp1 k φ1 _ (dropA h ⟨dst, op, ty, pos, after, none⟩ acc) h8 hg h7 ha
        refine ⟨st', φ', tm2, hp2, ?_, h2.trans h10, h11, h12⟩
        rw [runL_heavy _ _ _ _ _ _ _ _ _ _ _ _ hi, h1]
        simp only [runLK]
        rw [show putT N dst q t0 = some tm0 from h6]
        simp only [Option.bind_some, again_of ha, runLA]
        exact h9
      split at hw
      · refine step [] hw fun q H' φ1 h1 h2 => ?_
        cases acc with
        | nil => intro x hx; cases hx
        | cons y acc =>
          obtain ⟨_, _, _, _, _, _, _, _, _, _, _, _, e2, _⟩ := hacc y List.mem_cons_self
          cases e2
      · rename_i id0 ids0
        split at hw
        · rename_i t a x
          split at hw
          · rename_i id' j r hev
            split at hw
            · rename_i hb
              simp only [Bool.and_eq_true, Bool.not_eq_true'] at hb
              obtain ⟨⟨hl1, hl2⟩, hne⟩ := hb
              refine step (id0 :: ids0) hw fun q H' φ1 h1 h2 => ?_
              obtain ⟨p, hp1', hp2⟩ := hs.ev _ _ hev
              simp only [RV] at hp2
              obtain ⟨place', hpl', rfl⟩ := hp2
              have h1' : wStore P H t (Am.ev t0 a) (Am.ev t0 x) = some (q, H') := h1
              rw [show Am.ev t0 a = _ from hp1'] at h1'
              simp only [wStore, Option.bind_some] at h1'
              cases hx : (Am.ev t0 x).bind noTup with
              | none => simp [hx] at h1'
              | some v =>
                simp only [hx, Option.bind_some] at h1'
                cases hst : storeH P H t (.ptr place' j r) v with
                | none => simp [hst] at h1'
                | some H2 =>
                  simp only [hst, Option.map_some, Option.some.injEq, Prod.mk.injEq] at h1'
                  obtain ⟨rfl, rfl⟩ := h1'
                  intro y hy
                  obtain ⟨d', t', a', ty', pos', af', g', id, pl, i', r', e1, e2, e3, e4, e5⟩ := hacc y hy
                  refine ⟨d', t', a', ty', pos', af', g', id, pl, i', r', e1, e2, h2 _ _ e3, e4, ?_⟩
                  have hnp : pl ≠ place' := by
                    rintro rfl
                    obtain ⟨m1, g1, g2⟩ := liveAt_some hl1
                    obtain ⟨m2, g3, g4⟩ := liveAt_some (allLive_at hl2 e2)
                    exact hs.hp.inj id' id m1 m2 pl (hasId_ne hne e2) g1 g3 g2 g4 hpl' e3
                  rw [← e5]
                  simp only [loadPV, storeH_frame hst hnp]
            · cases hw
          · cases hw
        · cases hw
theorem dsts_eq : ∀ l : List Oper, dsts l = l.map (·.dst)
  | [] => rfl
  | o :: r => by simp only [dsts, dsts_eq r, List.map_cons]
theorem Fr.len {φ φ' : Ph} (h : Fr F φ φ') (hF : F ≤ φ.length) : F ≤ φ'.length := by
  cases F with
  | zero => exact Nat.zero_le _
  | succ n =>
    have h1 := h n (by omega)
    rw [List.getElem?_eq_getElem (show n < φ.length by omega)] at h1
    exact (List.getElem?_eq_some_iff.1 h1).1
theorem wp_ok (hT : TysOK P T) (c : Cx) : ∀ (code : Code) (tm : TM) (hp : List SM) (k : Ex → TM → List SM → Prop) (φ : Ph) (st : St), wp P h T F c code tm hp k → F ≤ φ.length → SRep φ tm hp st →
    ∃ e st' φ' tm' hp', exS P h (lim P h) c code st = some (e, st') ∧ Fr F φ φ' ∧ SRep φ' tm' hp' st' ∧ k e tm' hp'
  | .skip, tm, hp, k, φ, st, hw, _, hs => ⟨.normal, st, φ, tm, hp, rfl, Fr.refl F φ, hs, hw⟩
  | .label _, tm, hp, k, φ, st, hw, _, hs => ⟨.normal, st, φ, tm, hp, rfl, Fr.refl F φ, hs, hw⟩
  | .exit id, tm, hp, k, φ, st, hw, _, hs => ⟨.exit id, st, φ, tm, hp, rfl, Fr.refl F φ, hs, hw⟩
  | .ret, tm, hp, k, φ, st, hw, _, hs => ⟨.ret, st, φ, tm, hp, rfl, Fr.refl F φ, hs, hw⟩
  | .loop b, tm, hp, k, φ, st, hw, hF, hs => by
    obtain ⟨e, st', φ', tm', hp', h1, h2, h3, h4⟩ := LoopOK.out hw φ st hF hs
    exact ⟨e, st', φ', tm', hp', h1, h2, h3, h4⟩
  | .region id ops d, tm, hp, k, φ, st, hw, hF, hs => by
    simp only [wp] at hw
    split at hw
    · rename_i hl
      obtain ⟨st', φ', tm', hp', h1, h2, h3, h4⟩ := wpOps_ok hT _ _ _ _ _ _ hw hs
      refine ⟨.normal, st', φ', tm', hp', ?_, h2.fr hF, h3, h4⟩
      simp only [exS, hl, regA_run]
      rw [dsts_eq] at h1
      rw [h1]; rfl
    · rename_i j ls hl
      split at hw
      · rename_i hg
        obtain ⟨st', φ', tm', hp', h1, h2, h3, h4⟩ := wpOpsL_ok hT _ _ _ _ _ _ _ _ [] hw hg hs (fun x hx => by cases hx)
        refine ⟨.normal, st', φ', tm', hp', ?_, h2.fr hF, h3, h4⟩
        rw [x_region, hl, regL_cons _ _ _ _ _ hg, h1]; rfl
      · cases hw
  | .seq a b, tm, hp, k, φ, st, hw, hF, hs => by
    obtain ⟨e, st1, φ1, tm1, hp1, h1, h2, h3, h4⟩ := wp_ok hT c a _ _ _ φ st hw hF hs
    cases e with
    | normal =>
      obtain ⟨e, st', φ', tm', hp', g1, g2, g3, g4⟩ := wp_ok hT c b _ _ _ φ1 st1 h4 (h2.len hF) h3
      exact ⟨e, st', φ', tm', hp', by simp only [exS, h1, Option.bind_some, seqOut, g1], h2.trans g2, g3, g4⟩
    | exit j => exact ⟨_, st1, φ1, tm1, hp1, by simp only [exS, h1, Option.bind_some, seqOut], h2, h3, h4⟩
    | ret => exact ⟨_, st1, φ1, tm1, hp1, by simp only [exS, h1, Option.bind_some, seqOut], h2, h3, h4⟩
  | .cond x a b, tm, hp, k, φ, st, hw, hF, hs => by
    simp only [wp] at hw
    split at hw
    · rename_i t ht
      obtain ⟨q, h1, h2⟩ := hs.ev _ _ ht
      rw [rv_bool h2] at h1
      cases t with
      | true =>
        obtain ⟨e, st', φ', tm', hp', g1, g2, g3, g4⟩ := wp_ok hT c a _ _ _ φ st (hw.1 rfl) hF hs
        exact ⟨e, st', φ', tm', hp', by simp only [exS, h1, Option.bind_some, condOut, g1], g2, g3, g4⟩
      | false =>
        obtain ⟨e, st', φ', tm', hp', g1, g2, g3, g4⟩ := wp_ok hT c b _ _ _ φ st (hw.2 rfl) hF hs
        exact ⟨e, st', φ', tm', hp', by simp only [exS, h1, Option.bind_some, condOut, g1], g2, g3, g4⟩
    · cases hw
  | .block id b, tm, hp, k, φ, st, hw, hF, hs => by
    simp only [wp] at hw
    split at hw
    · rename_i hk
      obtain ⟨e, st1, φ1, tm1, hp1, h1, h2, h3, h4⟩ := wp_ok hT c b _ _ _ φ st hw hF hs
      cases e with
      | normal => exact ⟨.normal, st1, φ1, tm1, hp1, by simp only [exS, h1, Option.bind_some, blockOut, hk, maskK, Option.map_some], h2, h3, h4⟩
      | exit j =>
        simp only [blkK] at h4
        split at h4
        · rename_i hj
          have hj := Nat.eq_of_beq_eq_true hj
          exact ⟨.normal, st1, φ1, tm1, hp1, by simp only [exS, h1, Option.bind_some, blockOut, hk, maskK, Option.map_some, if_pos hj], h2, h3, h4⟩
        · rename_i hj
          have hj : j ≠ id := fun e => by subst e; simp at hj
          exact ⟨.exit j, st1, φ1, tm1, hp1, by simp only [exS, h1, Option.bind_some, blockOut, if_neg hj], h2, h3, h4⟩
      | ret => exact ⟨.ret, st1, φ1, tm1, hp1, by simp only [exS, h1, Option.bind_some, blockOut], h2, h3, h4⟩
    · cases hw
  | .goto _, _, _, _, _, _, hw, _, _ | .refuse _, _, _, _, _, _, hw, _, _ | .rangeFunc _ _ _ _, _, _, _, _, _, hw, _, _ | .scope _, _, _, _, _, _, hw, _, _ => hw.elim
theorem subL_ok : ∀ {t t' : CT} {l : List t.D} {l' : List t'.D}, subL t t' l l' → t = t' ∧ HEq l l' := by
  intro t t' l l' hs
  unfold subL at hs
  split at hs
  · split at hs
    · rename_i hk
      have := keq_eq hk
      subst this
      subst hs
      exact ⟨rfl, HEq.rfl⟩
    · cases hs
  · subst hs; exact ⟨rfl, HEq.rfl⟩
  · subst hs; exact ⟨rfl, HEq.rfl⟩
  · split at hs
    · rename_i hc
      have := ceq_eq hc
      subst this
      subst hs
      exact ⟨rfl, HEq.rfl⟩
    · cases hs
def mapI (φ : Ph) : List Im → Ph
  | [] => []
  | .is i :: r => (match φ[i]? with | some o => o | none => none) :: mapI φ r
  | .nil :: r => none :: mapI φ r
theorem mapI_len (φ : Ph) : ∀ σ : List Im, (mapI φ σ).length = σ.length
  | [] => rfl
  | .is i :: r => by simp only [mapI, List.length_cons, mapI_len φ r]
  | .nil :: r => by simp only [mapI, List.length_cons, mapI_len φ r]
theorem mapI_is (φ : Ph) : ∀ (σ : List Im) (j i : Nat) (o : Option Nat), nth σ j = some (.is i) → φ[i]? = some o → (mapI φ σ)[j]? = some o
  | .is i' :: r, 0, i, o, h, ho => by
    simp only [nth, Option.some.injEq, Im.is.injEq] at h
    subst h
    simp [mapI, ho]
  | .nil :: r, 0, i, o, h, ho => by simp [nth] at h
  | .is i' :: r, j + 1, i, o, h, ho => by simpa [mapI] using mapI_is φ r j i o h ho
  | .nil :: r, j + 1, i, o, h, ho => by simpa [mapI] using mapI_is φ r j i o h ho
theorem mapI_nil (φ : Ph) : ∀ (σ : List Im) (j : Nat), nth σ j = some .nil → (mapI φ σ)[j]? = some none
  | .nil :: r, 0, h => by simp [mapI]
  | .is i' :: r, 0, h => by simp [nth] at h
  | .is i' :: r, j + 1, h => by simpa [mapI] using mapI_nil φ r j h
  | .nil :: r, j + 1, h => by simpa [mapI] using mapI_nil φ r j h
theorem subC_ok {σ : List Im} (hl : φ.length = hp.length) : ∀ {V V' : SV} {q : PV}, subC σ V V' → RV φ V q → RV (mapI φ σ) V' q := by
  intro V V' q hs hr
  unfold subC at hs
  split at hs
  · split at hs
    · rename_i hk
      have := keq_eq hk
      subst this
      subst hs
      simpa only [RV] using hr
    · cases hs
  · subst hs; simpa only [RV] using hr
  · subst hs; simpa only [RV] using hr
  · obtain ⟨rfl, h2⟩ := subL_ok hs
    have h2 := eq_of_heq h2
    subst h2
    simpa only [RV] using hr
  · simp only [RV] at hr
    subst hr
    subst hs
    show RR _ _ _
    exact .inl ⟨rfl, rfl⟩
  · simpa only [RV] using hr
  · simpa only [RV] using hr
  · simpa only [RV] using hr
  · simpa only [RV] using hr
  · simp only [RV] at hr
    subst hr
    split at hs
    · rename_i hn
      simp only [RV]
      exact .inr ⟨mapI_nil φ σ _ hn, trivial, hs⟩
    · cases hs
  · split at hs
    · rename_i d hn
      split at hs
      · rename_i hd
        have hd := Nat.eq_of_beq_eq_true hd
        subst hd
        obtain ⟨rfl, rfl, hm⟩ := hs
        simp only [RV] at hr ⊢
        rcases hr with ⟨a, h1, h2⟩ | ⟨h1, h2, h3, h4, h5⟩
        · exact .inl ⟨a, mapI_is φ σ _ _ _ hn h1, by rw [hm]; exact h2⟩
        · exact .inr ⟨mapI_is φ σ _ _ _ hn h1, h2, h3, h4, by rw [hm]; exact h5⟩
      · cases hs
    · cases hs
  · split at hs
    · rename_i d hn
      split at hs
      · rename_i hd
        have hd := Nat.eq_of_beq_eq_true hd
        subst hd
        obtain ⟨rfl, rfl⟩ := hs
        simp only [RV] at hr ⊢
        obtain ⟨a, h1, h2⟩ := hr
        exact ⟨a, mapI_is φ σ _ _ _ hn h1, h2⟩
      · cases hs
    · cases hs
  · obtain ⟨h1, rfl⟩ := hs
    obtain ⟨rfl, h2⟩ := subL_ok h1
    have h2 := eq_of_heq h2
    cases h2
    simpa only [RV] using hr
  · cases hs
theorem subCs_ok {σ : List Im} (hl : φ.length = hp.length) : ∀ {l l' : List SV} {qs : List PV}, subCs σ l l' → RL φ l qs → RL (mapI φ σ) l' qs
  | [], [], qs, _, hr => by simpa only [RL] using hr
  | a :: l, b :: r, qs, hs, hr => by
    simp only [RL] at hr ⊢
    obtain ⟨q, r', rfl, h1, h2⟩ := hr
    exact ⟨q, r', rfl, subC_ok hl hs.1 h1, subCs_ok hl hs.2 h2⟩
theorem subV_ok {σ : List Im} (hl : φ.length = hp.length) {V V' : SV} {q : PV} (hs : subV σ V V') (hr : RV φ V q) : RV (mapI φ σ) V' q := by
  unfold subV at hs
  split at hs
  · obtain ⟨rfl, h1, h2⟩ := hs
    simp only [RV] at hr ⊢
    obtain ⟨a, c, rfl, h3, h4⟩ := hr
    exact ⟨a, c, rfl, subCs_ok hl h1 h3, subCs_ok hl h2 h4⟩
  · simp only [RV] at hr ⊢
    obtain ⟨a, rfl, h3⟩ := hr
    exact ⟨a, rfl, subCs_ok hl hs h3⟩
  · simp only [RV] at hr ⊢
    obtain ⟨a, rfl, h3⟩ := hr
    exact ⟨a, rfl, subCs_ok hl hs h3⟩
  · exact subC_ok hl hs hr
theorem apart_ne : ∀ {σ : List Im} {j j' i : Nat}, apartI σ = true → j ≠ j' → nth σ j = some (.is i) → nth σ j' = some (.is i) → False
  | .nil :: r, 0, _, _, _, _, h1, _ => by simp [nth] at h1
  | .nil :: r, _, 0, _, _, _, _, h2 => by simp [nth] at h2
  | .nil :: r, j + 1, j' + 1, i, ha, hne, h1, h2 => apart_ne (σ := r) ha (by omega) h1 h2
  | .is x :: r, 0, 0, _, _, hne, _, _ => hne rfl
  | .is x :: r, 0, j' + 1, i, ha, _, h1, h2 => by
    simp only [apartI, Bool.and_eq_true, List.all_eq_true] at ha
    simp only [nth, Option.some.injEq, Im.is.injEq] at h1
    subst h1
    have : nth r j' = some (.is x) := h2
    rw [nth_eq] at this
    have := ha.1 _ (List.mem_of_getElem? this)
    simp at this
  | .is x :: r, j + 1, 0, i, ha, _, h1, h2 => by
    simp only [apartI, Bool.and_eq_true, List.all_eq_true] at ha
    simp only [nth, Option.some.injEq, Im.is.injEq] at h2
    subst h2
    have : nth r j = some (.is x) := h1
    rw [nth_eq] at this
    have := ha.1 _ (List.mem_of_getElem? this)
    simp at this
  | .is x :: r, j + 1, j' + 1, i, ha, hne, h1, h2 => by
    simp only [apartI, Bool.and_eq_true] at ha
    exact apart_ne (σ := r) ha.2 (by omega) h1 h2
theorem subHp_at {σ : List Im} : ∀ {ss : List Im} {ms : List SM} {j : Nat} {m : SM}, subHp σ hp ss ms → ms[j]? = some m → ∃ s, nth ss j = some s ∧ subM σ hp s m
  | _, [], j, m, _, h => by simp at h
  | [], _ :: _, _, _, hs, _ => hs.elim
  | s :: ss, m' :: ms, 0, m, hs, h => by
    simp at h
    subst h
    exact ⟨s, rfl, hs.1⟩
  | s :: ss, m' :: ms, j + 1, m, hs, h => subHp_at (ss := ss) hs.2 (by simpa using h)
theorem RH.view {L : Nat → Option Mem} (hh : RH φ hp L) {σ : List Im} {hp' : List SM} (hlen : σ.length = hp'.length) (ha : apartI σ = true) (hs : subHp σ hp σ hp') : RH (mapI φ σ) hp' L := by
  have ph : ∀ {i : Nat} {m : SM}, nth hp i = some m → ∃ o, φ[i]? = some o ∧ RM φ L o m := fun h => hh.ph h
  -- what a live row of the new heap is
  have at_ : ∀ {j : Nat} {m : SM} {o : Option Nat}, hp'[j]? = some m → (mapI φ σ)[j]? = some o → RM (mapI φ σ) L o m ∧ (∀ a, o = some a → live m = true → ∃ i m0, nth σ j = some (.is i) ∧ nth hp i = some m0 ∧ live m0 = true ∧ φ[i]? = some (some a)) := by
    intro j m o hm ho
    obtain ⟨s, h1, h2⟩ := subHp_at hs hm
    unfold subM at h2
    split at h2
    · rename_i id t' l' m'
      split at h2
      · rename_i t l m0 hrow
        obtain ⟨o', h3, h4⟩ := ph hrow
        have h5 := mapI_is φ σ _ _ _ h1 h3
        rw [h5] at ho; cases ho
        obtain ⟨h6, h7⟩ := h2
        obtain ⟨rfl, h8⟩ := subL_ok h6
        have h8 := eq_of_heq h8
        subst h8
        refine ⟨?_, fun a ha _ => ⟨_, _, h1, hrow, rfl, by rw [h3, ha]⟩⟩
        simp only [RM] at h4 ⊢
        cases o with
        | none => exact h4
        | some a =>
          obtain ⟨es, m1, g1, g2, g3⟩ := h4
          exact ⟨es, m1, g1, g2, fun h => g3 (h7 h)⟩
      · cases h2
    · have h5 := mapI_nil φ σ _ h1
      rw [h5] at ho; cases ho
      exact ⟨by simp only [RM]; exact h2, fun a ha => by cases ha⟩
    · split at h2
      · rename_i cs m0 hrow
        obtain ⟨o', h3, h4⟩ := ph hrow
        have h5 := mapI_is φ σ _ _ _ h1 h3
        rw [h5] at ho; cases ho
        refine ⟨?_, fun a ha _ => ⟨_, _, h1, hrow, rfl, by rw [h3, ha]⟩⟩
        simp only [RM] at h4 ⊢
        obtain ⟨a, cs', m1, g0, g1, g2, g3⟩ := h4
        exact ⟨a, cs', m1, g0, g1, subCs_ok hh.len h2.1 g2, fun h => g3 (h2.2 h)⟩
      · cases h2
    · exact ⟨trivial, fun a _ hl => by cases hl⟩
    · cases h2
  refine ⟨by rw [mapI_len, hlen], fun j m o hm ho => (at_ hm ho).1, ?_⟩
  intro j j' m m' a hne hm hm' hl hl' ho ho'
  obtain ⟨i, m0, h1, h2, h3, h4⟩ := (at_ hm ho).2 a rfl hl
  obtain ⟨i', m0', h1', h2', h3', h4'⟩ := (at_ hm' ho').2 a rfl hl'
  by_cases hi : i = i'
  · subst hi
    exact apart_ne ha hne h1 h1'
  · rw [nth_eq] at h2 h2'
    exact hh.inj _ _ _ _ _ hi h2 h2' h3 h3' h4 h4'
theorem sigI_len (tm tm' : TM) (hp hp' : List SM) : ∀ (j : Nat) (l : List SM), (sigI tm tm' hp hp' j l).length = l.length
  | _, [] => rfl
  | j, _ :: r => by simp only [sigI, List.length_cons, sigI_len tm tm' hp hp' (j + 1) r]
theorem firstI_at : ∀ {F : Nat} {σ : List Im} {j : Nat}, firstI F σ = true → j < F → nth σ j = some (.is j)
  | F + 1, σ, j, h, hj => by
    simp only [firstI] at h
    split at h
    · rename_i i hi
      simp only [Bool.and_eq_true] at h
      by_cases e : j = F
      · subst e
        rw [hi, Nat.eq_of_beq_eq_true h.1]
      · exact firstI_at h.2 (by omega)
    · cases h
theorem ent_of {tm' : TM} {hp' : List SM} {σ : List Im} (hσ : sigI tm tm' hp hp' 0 hp' = σ) (h0 : (apartI σ && firstI F σ) = true) (h1 : subTm σ tm tm') (h2 : subHp σ hp σ hp') : Ent F tm hp tm' hp' := by
  refine ⟨fun φ st hF hs => ⟨mapI φ σ, ?_, ?_, ?_⟩⟩
  · simp only [Bool.and_eq_true] at h0
    intro j hj
    have h3 : φ[j]? = some φ[j] := List.getElem?_eq_getElem (by omega)
    rw [h3]
    exact mapI_is φ σ j j _ (firstI_at h0.2 hj) h3
  · intro i V' hV'
    have : ∀ (l : TM), subTm σ tm l → getS i l = some V' → ∃ V, getS i tm = some V ∧ subV σ V V' := by
      intro l
      induction l with
      | nil => intro _ h; cases h
      | cons x r ih =>
        obtain ⟨j, W⟩ := x
        intro h3 h4
        simp only [subTm] at h3
        rw [getS_cons] at h4
        split at h3
        · rename_i V hV
          cases hb : Nat.beq i j with
          | true =>
            rw [hb] at h4
            cases h4
            have := Nat.eq_of_beq_eq_true hb
            subst this
            exact ⟨V, hV, h3.1⟩
          | false =>
            rw [hb] at h4
            exact ih h3.2 h4
        · cases h3
    obtain ⟨V, hV, hsub⟩ := this tm' h1 hV'
    obtain ⟨q, h3, h4⟩ := hs.tm i V hV
    exact ⟨q, h3, subV_ok hs.hp.len hsub h4⟩
  · simp only [Bool.and_eq_true] at h0
    exact hs.hp.view (by rw [← hσ, sigI_len]) h0.1 h2
theorem ent_refl : Ent F tm hp tm hp := ⟨fun φ _ _ hs => ⟨φ, Fr.refl F φ, hs⟩⟩
def loopK {σ : Type} (F : Nat) (ctm : σ → TM) (chp : σ → List SM) (Inv : σ → Prop) (meas : σ → Nat) (a : σ) (k : Ex → TM → List SM → Prop) : Ex → TM → List SM → Prop
  | .normal, tm, hp => ∃ a', Inv a' ∧ meas a' < meas a ∧ Ent F tm hp (ctm a') (chp a')
  | e, tm, hp => k e tm hp
theorem loop_wp {σ : Type} (hT : TysOK P T) {c : Cx} {b : Code} {k : Ex → TM → List SM → Prop} (hk : h.keep c.fid (firstReg b) = none) (ctm : σ → TM) (chp : σ → List SM) (Inv : σ → Prop) (meas : σ → Nat)
    (round : ∀ a, Inv a → wp P h T F c b (ctm a) (chp a) (loopK F ctm chp Inv meas a k)) (a : σ) (hi : Inv a) (he : Ent F tm hp (ctm a) (chp a)) : LoopOK P h F c b tm hp k := by
  have main : ∀ (n : Nat) (a : σ), meas a = n → Inv a → ∀ φ st, F ≤ φ.length → SRep φ (ctm a) (chp a) st → ∃ e st' φ' tm' hp', (lim P h).ex c (.loop b) st = some (e, st') ∧ Fr F φ φ' ∧ SRep φ' tm' hp' st' ∧ k e tm' hp' := by
    intro n
    induction n using Nat.strongRecOn with
    | _ n ih =>
      intro a hm hi φ st hF hs
      obtain ⟨e, st1, φ1, tm1, hp1, h1, h2, h3, h4⟩ := wp_ok hT c b _ _ _ φ st (round a hi) hF hs
      have hr : roundS P h (lim P h) c b st = some (e, st1) := by unfold roundS; rw [hk]; exact h1
      cases e with
      | normal =>
        obtain ⟨a', g1, g2, g3⟩ := h4
        obtain ⟨φ2, g4, g5⟩ := g3.out φ1 st1 (h2.len hF) h3
        obtain ⟨e, st', φ', tm', hp', f1, f2, f3, f4⟩ := ih (meas a') (by omega) a' rfl g1 φ2 st1 (g4.len (h2.len hF)) g5
        exact ⟨e, st', φ', tm', hp', loop_next hr f1, (h2.trans g4).trans f2, f3, f4⟩
      | exit j => exact ⟨_, st1, φ1, tm1, hp1, loop_done (by simp) hr, h2, h3, h4⟩
      | ret => exact ⟨_, st1, φ1, tm1, hp1, loop_done (by simp) hr, h2, h3, h4⟩
  refine ⟨fun φ st hF hs => ?_⟩
  obtain ⟨φ1, h1, h2⟩ := he.out φ st hF hs
  obtain ⟨e, st', φ', tm', hp', f1, f2, f3, f4⟩ := main _ a rfl hi φ1 st (h1.len hF) h2
  exact ⟨e, st', φ', tm', hp', f1, h1.trans f2, f3, f4⟩
theorem LoopOK.mono {c : Cx} {b : Code} {k k' : Ex → TM → List SM → Prop} (hl : LoopOK P h F c b tm hp k) (hk : ∀ e tm hp, k e tm hp → k' e tm hp) : LoopOK P h F c b tm hp k' :=
  ⟨fun φ st hF hs => by
    obtain ⟨e, st', φ', tm', hp', f1, f2, f3, f4⟩ := hl.out φ st hF hs
    exact ⟨e, st', φ', tm', hp', f1, f2, f3, hk _ _ _ f4⟩⟩
theorem LoopOK.ent {c : Cx} {b : Code} {k : Ex → TM → List SM → Prop} {tm' : TM} {hp' : List SM} (hl : LoopOK P h F c b tm' hp' k) (he : Ent F tm hp tm' hp') : LoopOK P h F c b tm hp k :=
  ⟨fun φ st hF hs => by
    obtain ⟨φ1, h1, h2⟩ := he.out φ st hF hs
    obtain ⟨e, st', φ', tm', hp', f1, f2, f3, f4⟩ := hl.out φ1 st (h1.len hF) h2
    exact ⟨e, st', φ', tm', hp', f1, h1.trans f2, f3, f4⟩⟩
theorem LoopOK.through {c : Cx} {b : Code} {k k' : Ex → TM → List SM → Prop} (hl : LoopOK P h F c b tm hp k) (hk : ∀ e tm hp, k e tm hp → ∃ tm' hp', Ent F tm hp tm' hp' ∧ k' e tm' hp') : LoopOK P h F c b tm hp k' :=
  ⟨fun φ st hF hs => by
    obtain ⟨e, st', φ', tm', hp', f1, f2, f3, f4⟩ := hl.out φ st hF hs
    obtain ⟨tm2, hp2, g1, g2⟩ := hk _ _ _ f4
    obtain ⟨φ2, g3, g4⟩ := g1.out φ' st' (f2.len hF) f3
    exact ⟨e, st', φ2, tm2, hp2, f1, f2.trans g3, g4, g2⟩⟩
theorem PureOK.mono {f : FuncId} {Vs : List SV} {Q Q' : SV → Prop} (hp : PureOK P h f Vs Q) (hq : ∀ V, Q V → Q' V) : PureOK P h f Vs Q' :=
  ⟨fun qs hr => by obtain ⟨q, V, h1, h2, h3⟩ := hp.out qs hr; exact ⟨q, V, h1, h2, hq V h3⟩⟩
def AsV (V V' : SV) : Prop := ∀ φ q, RV φ V q → RV φ V' q
theorem PureOK.as {f : FuncId} {Vs : List SV} {Q Q' : SV → Prop} (hp : PureOK P h f Vs Q) (hq : ∀ V, Q V → ∃ V', AsV V V' ∧ Q' V') : PureOK P h f Vs Q' :=
  ⟨fun qs hr => by
    obtain ⟨q, V, h1, h2, h3⟩ := hp.out qs hr
    obtain ⟨V', h4, h5⟩ := hq V h3
    exact ⟨q, V', h1, h4 _ _ h2, h5⟩⟩
theorem AsV.refl (V : SV) : AsV V V := fun _ _ h => h
theorem AsV.nil (e : CT) : AsV .nils (.v (.l e) ([] : List e.D)) := fun φ q h => by
  simp only [RV] at h
  subst h
  show RR _ _ _
  exact .inl ⟨rfl, rfl⟩
theorem AsV.tup2 {a b a' b' : SV} (h1 : AsV a a') (h2 : AsV b b') : AsV (.tup [a, b]) (.tup [a', b']) := fun φ q h => by
  simp only [RV, RL] at h ⊢
  obtain ⟨_, rfl, _, _, rfl, h3, _, _, rfl, h4, rfl⟩ := h
  exact ⟨_, rfl, _, _, rfl, h1 _ _ h3, _, _, rfl, h2 _ _ h4, rfl⟩
theorem ImpOK.mono {f : FuncId} {Vs : List SV} {Q Q' : SV → List SM → Bool → Prop} (hp : ImpOK P h f Vs Q) (hq : ∀ V hn sf, Q V hn sf → Q' V hn sf) : ImpOK P h f Vs Q' :=
  ⟨fun qs hr base => by obtain ⟨v, rows, sf, φ, V, hp', sf', h1, h2, h3, h4, h5⟩ := hp.out qs hr base; exact ⟨v, rows, sf, φ, V, hp', sf', h1, h2, h3, h4, hq _ _ _ h5⟩⟩
theorem OpenOK.mono {f : FuncId} {Vs : List SV} {Q Q' : SV → List SM → Prop} (ho : OpenOK P h f Vs hp Q) (hq : ∀ V hp, Q V hp → Q' V hp) : OpenOK P h f Vs hp Q' :=
  ⟨fun φ H qs h1 h2 => by obtain ⟨v, H', φ', V, hp', g1, g2, g3, g4, g5⟩ := ho.out φ H qs h1 h2; exact ⟨v, H', φ', V, hp', g1, g2, g3, g4, hq _ _ g5⟩⟩
theorem resT_ok (hT : TysOK P T) {st : St} (hs : SRep φ tm hp st) : ∀ {rs : List ResultVar} {k : List SV → Prop}, resT T tm hp rs k → ∃ vs l, omap (resOf P st.tm st.hp) rs = some vs ∧ RL φ l vs ∧ k l
  | [], k, hk => ⟨[], [], rfl, by simp only [RL], hk⟩
  | .tmp t :: r, k, hk => by
    simp only [resT] at hk
    split at hk
    · rename_i V hV
      obtain ⟨q, h1, h2⟩ := hs.tm _ _ hV
      obtain ⟨vs, l, h3, h4, h5⟩ := resT_ok hT hs hk
      exact ⟨q :: vs, V :: l, by rw [omap_cons', h3]; simp only [resOf, h1, Option.bind_some], by simp only [RL]; exact ⟨_, _, rfl, h2, h4⟩, h5⟩
    · cases hk
  | .cell a t :: r, k, hk => by
    simp only [resT] at hk
    split at hk
    · rename_i V hV
      obtain ⟨q, h1, h2⟩ := hs.tm _ _ hV
      obtain ⟨q', V', h6, h7, h8⟩ := loadT_ok hT hs.hp hk h2
      obtain ⟨vs, l, h3, h4, h5⟩ := resT_ok hT hs h8
      exact ⟨q' :: vs, V' :: l, by rw [omap_cons', h3]; simp only [resOf, h1, h6, Option.bind_some], by simp only [RL]; exact ⟨_, _, rfl, h7, h4⟩, h5⟩
    · cases hk
theorem oneS_ok {l : List SV} {vs : List PV} (hr : RL φ l vs) : RV φ (oneS l) (oneOrTup vs) := by
  match l, vs, hr with
  | [], vs, hr => simp only [RL] at hr; subst hr; simp only [oneS, oneOrTup, RV, RL]; exact ⟨_, rfl, rfl⟩
  | [V], vs, hr =>
    obtain ⟨q, rfl, h2⟩ := RL1 hr
    exact h2
  | V :: W :: r, vs, hr =>
    have hr' := hr
    simp only [RL] at hr'
    obtain ⟨q, r1, rfl, _, q2, r2, rfl, _⟩ := hr'
    simp only [oneS, oneOrTup]
    show RV φ (.tup _) _
    simp only [RV]
    exact ⟨_, rfl, hr⟩
theorem finT_ok (hT : TysOK P T) {st : St} (hs : SRep φ tm hp st) {rs : List ResultVar} {k : SV → List SM → Prop} {e : Ex} (hk : finT T rs k e tm hp) : ∃ v V, finS P rs (e, st) = some (v, st.hp) ∧ RV φ V v ∧ k V hp := by
  cases e with
  | exit j => cases hk
  | normal =>
    obtain ⟨vs, l, h1, h2, h3⟩ := resT_ok hT hs hk
    exact ⟨_, _, by simp only [finS, h1, Option.map_some], oneS_ok h2, h3⟩
  | ret =>
    obtain ⟨vs, l, h1, h2, h3⟩ := resT_ok hT hs hk
    exact ⟨_, _, by simp only [finS, h1, Option.map_some], oneS_ok h2, h3⟩
theorem enter_ok {qs : List PV} : ∀ {Vs : List SV} {n : Nat}, RL φ Vs qs → ∀ i V, getS i (enterS n Vs) = some V → ∃ q, Am.get (enterT n qs) i = some q ∧ RV φ V q := by
  intro Vs
  induction Vs generalizing qs with
  | nil => intro n _ i V h; cases h
  | cons W r ih =>
    intro n hr i V hV
    simp only [RL] at hr
    obtain ⟨q, r', rfl, h2, h3⟩ := hr
    simp only [enterS] at hV
    rw [getS_cons] at hV
    show ∃ q', (bif Nat.beq i n then some q else Am.get (enterT (n + 1) r') i) = some q' ∧ _
    cases hb : Nat.beq i n with
    | true => rw [hb] at hV; cases hV; exact ⟨q, rfl, h2⟩
    | false => rw [hb] at hV; exact ih h3 i V hV
theorem fn_ok (hT : TysOK P T) {f : FuncId} {fn : Func} {code : Code} {Vs : List SV} {k : SV → List SM → Prop} (hok : h.ok f = true) (hf : P.funcs[f]? = some fn) (hb : fn.body = some code) (hn : Vs.length ≤ fn.ntmps) {H : List Mem}
    (hw : wp P h T F ⟨f, H.length, fn.ntmps⟩ code (enterS 0 Vs) hp (finT T fn.results.toList k)) {qs : List PV} (hF : F ≤ φ.length) (hh : RH φ hp (fun a => H[a]?)) (hr : RL φ Vs qs) :
    ∃ v H' φ' V hp', (lim P h).rn f qs H = some (v, H') ∧ Fr F φ φ' ∧ RH φ' hp' (fun a => H'[a]?) ∧ RV φ' V v ∧ k V hp' := by
  obtain ⟨e, st', φ', tm', hp', h1, h2, h3, h4⟩ := wp_ok hT _ code _ _ _ φ ⟨enterT 0 qs, H⟩ hw hF ⟨enter_ok hr, hh⟩
  obtain ⟨v, V, h5, h6, h7⟩ := finT_ok hT h3 h4
  refine ⟨v, st'.hp, φ', V, hp', ?_, h2, h3.hp, h6, h7⟩
  refine rn_lim hok hf hb (by rw [← hr.len]; exact hn) ?_
  rw [h1, Option.bind_some]
  exact h5
theorem RH.empty : RH [] [] (fun a => ([] : List Mem)[a]?) := ⟨rfl, fun _ _ _ h => by simp at h, fun _ _ _ _ _ _ h => by simp at h⟩
theorem pure_rule (hT : TysOK P T) {f : FuncId} {fn : Func} {code : Code} {Vs : List SV} {Q : SV → Prop} (hok : h.ok f = true) (hp : h.prim f = none) (hf : P.funcs[f]? = some fn) (hb : fn.body = some code) (hn : Vs.length ≤ fn.ntmps)
    (hw : wp P h T 0 ⟨f, 0, fn.ntmps⟩ code (enterS 0 Vs) [] (finT T fn.results.toList fun V hp => expV hp 40 V Q)) : PureOK P h f Vs Q := by
  refine ⟨fun qs hr => ?_⟩
  obtain ⟨v, H', φ', V, hp', h1, _, h3, h4, h5⟩ := fn_ok (φ := []) (H := []) hT hok hf hb hn hw (Nat.zero_le _) RH.empty hr
  obtain ⟨q', V', g1, g2, g3, _⟩ := expV_ok h3 40 V v Q h5 h4
  refine ⟨q', V', ?_, g2, g3⟩
  simp only [pureCall, hp, h1, Option.bind_some]
  exact g1
end
end Go.Tx