/-
  An operation in its place; a row of operations in the order of the text.
-/
import Derived.Test.YtcclbkkgpcpikaaAm14
set_option linter.unusedSimpArgs false
set_option linter.unusedVariables false
namespace Go.Am
open Go.RowKit

section
variable {P : Program} {h : Hints} {E : Ev} {w : World} {φ : Phi} {S : Nat → Prop} {B : Nat} {H H' : List Mem} {tm : List (Nat × PV)} {N : Nat} {o : Oper} {a : Act} {K : Act → World → Prop} {Q : Exit → Act → World → Prop}

theorem Sub.freeze0 (ids : List Nat) (H : List Mem) : Sub H (Am.freeze ids H) := by
  have := Sub.freeze ids H []
  simpa using this

theorem newAt_app {H' : List Mem} (hI : Inv φ H w S B) (hlen : H'.length = H.length) (ms : List Mem) : NewAt (H' ++ ms) φ H.length ms := by
  intro j m hm
  refine ⟨m, ?_, .inl rfl, ?_⟩
  · rw [List.getElem?_append_right (by omega), hlen]
    rw [show H.length + j - H.length = j from by omega]
    exact hm
  · cases hc : φ (H.length + j) with
    | none => rfl
    | some l => have := (hI.live _ l hc).2.2; omega
theorem callAny_sound (hG : Good P h E) (hI : Inv φ H w S B) {f : FuncId} {args : List PV} {vals : List Value} {v : PV} (hc : callAny h E f args H = some (v, H')) (hv : VL φ w S args vals) :
    FnOk P f ∧ Calls P f vals.toArray w (Gives H' H.length B φ S w v) := by
  unfold callAny at hc
  by_cases ho : h.opn f = true
  · rw [if_pos ho] at hc
    exact ⟨hG.fnOk f (.inl ⟨_, _, _, hc⟩), hG.rn f args H v H' hc φ S w B vals hI hv⟩
  · rw [if_neg ho] at hc
    cases hr : callC h E f args H H.length with
    | none => simp [hr] at hc
    | some x =>
      obtain ⟨q, ms, fz⟩ := x
      simp only [hr, Option.map_some, Option.some.injEq, Prod.mk.injEq] at hc
      obtain ⟨rfl, rfl⟩ := hc
      obtain ⟨S1, h1, h2, h3⟩ := hI.freeze fz
      have hlen := freeze_length fz H
      have hI1 : Inv φ (freeze fz H ++ ms) w S1 B := h1.reheap (fun j l hj => .inl (by rw [List.getElem?_append_left (h1.live j l hj).2.2])) (by simp)
      have hr' := callC_mono (Sub.freeze fz H ms) hr
      have hv1 : VL φ w S1 args vals := hv.evo h2 hI (Nat.le_refl _)
      have hcall := callC_sound hG.rn hG.prim hI1 hr' hv1 (newAt_app hI hlen ms) (fun id hid l es z m hl hm => by
        have hlt := (hI.live id l hl).2.2
        rw [List.getElem?_append_left (by omega)] at hm
        obtain ⟨m', hm'⟩ := freeze_row fz H id es z m hm
        exact h3 id hid l es z m' hl hm')
      refine ⟨callC_ok hG hr, hcall.mono ?_⟩
      rintro e w' ⟨u, φ', S2, rfl, h4, h5, h6, _⟩
      exact ⟨u, φ', S2, rfl, h4, h2.trans (h5.mono (by simp [hlen])), h6⟩

theorem undef_rel : VRel φ w S (.tup []) undef := by simp only [VRel, VL]; exact ⟨#[], rfl, rfl⟩

theorem appendF_sound {ts : Array TypeId} {ty : TypeId} {s x v : PV} {sv xv : Value} {H' : List Mem} (hI : Inv φ H w S B) (hop : appendF P h H ts s x = some (v, H')) (hs : VRel φ w S s sv) (hx : VRel φ w S x xv) :
    ∃ u w' φ' S', (Builtin.append_ ts ty #[sv, xv]).run P w = .ok u w' ∧ Inv φ' H' w' S' B ∧ Evo H.length B φ S w φ' S' w' ∧ VRel φ' w' S' v u := by
  unfold appendF at hop
  cases hf : frzT h ts with
  | false => rw [hf, cond_false] at hop; exact appendH_sound hI hop hs hx
  | true =>
    rw [hf, cond_true] at hop
    obtain ⟨x', h1, h2⟩ := bind1 hop
    obtain ⟨S1, h3, h4, h5⟩ := hI.freeze (rch expFuel H x)
    have h6 := (exp_sound hI (rch expFuel H x) expFuel x x' xv h1 hx (fun _ hid => hid)).1
    have h7 : IRel w S1 x' xv := IRel.mono (fun b hb => ⟨by
      rcases hb with hb | ⟨id, hid, l, hl, rfl⟩
      · exact (h4.st b hb).1
      · obtain ⟨es, z, m, hrow⟩ := rch_row _ _ _ hid
        exact h5 id hid l es z m hl hrow, rfl⟩) _ _ h6
    obtain ⟨u, w', φ', S', h8, h9, h10, h11⟩ := appendH_sound (P := P) (ty := ty) h3 h2 (VRel.mono (fun _ _ hl => hl) h4.st _ _ hs) (IRel.toV _ _ h7)
    rw [freeze_length] at h10
    exact ⟨u, w', φ', S', h8, h9, h4.trans h10, h11⟩
theorem opW_wp (hG : Good P h E) {v : PV} (hI : Inv φ H w S B) (ht : TRel φ w S N tm a) (hop : opW P h E H (ev tm) o = some (v, H'))
    (hK : ∀ u w' φ' S', Inv φ' H' w' S' B → Evo H.length B φ S w φ' S' w' → VRel φ' w' S' v u → K (a.put o.dst u) w') : o.wp P a w K Q := by
  have harr : ∀ c : Call, c.args.map a.eval = (c.args.toList.map a.eval).toArray := fun c => by rw [← Array.toList_map, Array.toArray_toList]
  unfold opW at hop
  cases ho : o.op with
  | store t x y =>
    simp only [ho, wStore] at hop
    obtain ⟨p, h1, g1⟩ := bind1 hop
    obtain ⟨q, h2, g2⟩ := bind1 g1
    obtain ⟨h3, hn⟩ := bind_noTup h2
    cases hs : storeH P H t p q with
    | none => simp [hs] at g2
    | some H2 =>
      simp only [hs, Option.map_some, Option.some.injEq, Prod.mk.injEq] at g2
      obtain ⟨rfl, rfl⟩ := g2
      obtain ⟨w', h4, h5, h6⟩ := storeH_sound (P := P) hI hs (ev_sound ht h1) (ev_sound ht h3) hn
      exact wp_of_skip (by simp [execOp, ho, h4]) (hK _ w' φ S h5 h6 undef_rel)
  | mapUpdate t m k x =>
    simp only [ho] at hop
    have hop' := hop
    unfold wMap at hop'
    obtain ⟨e, he, g1⟩ := bind1 hop'
    obtain ⟨mv, h1, g2⟩ := bind1 g1
    obtain ⟨kv, h2, g3⟩ := bind1 g2
    obtain ⟨xv, h3, g4⟩ := bind1 g3
    rw [h1, h2, h3] at hop
    obtain ⟨w', h4, rfl, h5, h6⟩ := wMap_sound hI hop (ev_sound ht h1) (ev_sound ht h2) (ev_sound ht h3)
    exact wp_of_skip (by simp [execOp, ho, h4]) (hK _ w' φ S h5 h6 undef_rel)
  | insert t m k x =>
    simp only [ho] at hop
    have hop' := hop
    unfold wMap at hop'
    obtain ⟨e, he, g1⟩ := bind1 hop'
    obtain ⟨mv, h1, g2⟩ := bind1 g1
    obtain ⟨kv, h2, g3⟩ := bind1 g2
    obtain ⟨xv, h3, g4⟩ := bind1 g3
    rw [h1, h2, h3] at hop
    obtain ⟨w', h4, rfl, h5, h6⟩ := wMap_sound hI hop (ev_sound ht h1) (ev_sound ht h2) (ev_sound ht h3)
    exact wp_of_skip (by simp [execOp, ho, h4]) (hK _ w' φ S h5 h6 undef_rel)
  | call c =>
    simp only [ho, wCall] at hop
    cases hc : c.callee with
    | builtin b =>
      simp only [hc, wBuiltin] at hop
      have two : ∀ {vs : List PV} {s x : PV}, omap (ev tm) c.args.toList = some vs → vs = [s, x] → ∃ sv xv, c.args.toList.map a.eval = [sv, xv] ∧ VRel φ w S s sv ∧ VRel φ w S x xv := by
        intro vs s x h1 h2
        subst h2
        have hv := evs_sound ht h1
        simp only [VL] at hv
        obtain ⟨sv, r, e1, h3, xv, r2, rfl, h4, rfl⟩ := hv
        exact ⟨sv, xv, e1, h3, h4⟩
      cases b <;> simp only [] at hop <;> try (cases hop; done)
      · -- append
        unfold wAppend at hop
        obtain ⟨vs, h1, g1⟩ := bind1 hop
        split at g1
        · rename_i s x
          obtain ⟨sv, xv, e1, h3, h4⟩ := two h1 rfl
          obtain ⟨u, w', φ', S', h5, h6, h7, h8⟩ := appendF_sound (P := P) (h := h) (ty := o.type) hI g1 h3 h4
          refine wp_of_run ?_ (hK u w' φ' S' h6 h7 h8)
          simp only [execOp, ho, resolve, hc, Sem.run_bind, Sem.run_pure, Result.andThen_ok, invoke, builtin, harr, e1]
          rw [show ([sv, xv] : List Value).toArray = #[sv, xv] from rfl, h5]
          rfl
        · cases g1
      · -- clear
        unfold wClear at hop
        obtain ⟨vs, h1, g1⟩ := bind1 hop
        split at g1
        · rename_i s
          have hv := evs_sound ht h1
          simp only [VL] at hv
          obtain ⟨sv, r, e1, h3, rfl⟩ := hv
          obtain ⟨u, w', h5, h6, h7, h8⟩ := clearH_sound (P := P) (ty := o.type) hI g1 h3
          refine wp_of_run ?_ (hK u w' φ S h6 h7 h8)
          simp only [execOp, ho, resolve, hc, Sem.run_bind, Sem.run_pure, Result.andThen_ok, invoke, builtin, harr, e1]
          rw [show ([sv] : List Value).toArray = #[sv] from rfl, h5]
          rfl
        · cases g1
      · -- copy
        unfold wCopy at hop
        obtain ⟨vs, h1, g1⟩ := bind1 hop
        split at g1
        · rename_i s x
          obtain ⟨sv, xv, e1, h3, h4⟩ := two h1 rfl
          obtain ⟨u, w', h5, h6, h7, h8⟩ := copyH_sound (P := P) (ty := o.type) hI g1 h3 h4
          refine wp_of_run ?_ (hK u w' φ S h6 h7 h8)
          simp only [execOp, ho, resolve, hc, Sem.run_bind, Sem.run_pure, Result.andThen_ok, invoke, builtin, harr, e1]
          rw [show ([sv, xv] : List Value).toArray = #[sv, xv] from rfl, h5]
          rfl
        · cases g1
    | value x =>
      have dyn : wDyn h E H (ev tm) x c = some (v, H') → o.wp P a w K Q := by
        intro hd
        unfold wDyn at hd
        obtain ⟨fv, h1, g1⟩ := bind1 hd
        split at g1
        · rename_i f first caps
          obtain ⟨vs, h2, g2⟩ := bind1 g1
          have hf := ev_sound ht h1
          simp only [VRel] at hf
          obtain ⟨fs, cs, hfe, hfv, hcv⟩ := hf
          obtain ⟨hok, hcall⟩ := callAny_sound hG hI g2 (VL.append (VL.append hfv (evs_sound ht h2)) hcv)
          refine wp_of_enter (f := f) (args := (fs.toList ++ c.args.toList.map a.eval ++ cs.toList).toArray) ?_ (hcall.mono ?_)
          · simp only [execOp, ho, resolve, hc, hfe, Deferred.ofValue, Sem.run_bind, Sem.run_pure, Result.andThen_ok, invoke, run_callFunc hok]
            congr 2
            apply Array.ext'
            simp
          · rintro e w' ⟨u, φ', S', rfl, h4, h5, h6⟩
            exact ⟨u, rfl, hK u w' φ' S' h4 h5 h6⟩
        · cases g1
      cases x with
      | func f =>
        simp only [hc] at hop
        unfold wOpen at hop
        obtain ⟨vs, h2, g2⟩ := bind1 hop
        obtain ⟨hok, hcall⟩ := callAny_sound hG hI g2 (evs_sound ht h2)
        refine wp_of_enter (f := f) (args := (c.args.toList.map a.eval).toArray) ?_ (hcall.mono ?_)
        · simp only [execOp, ho, resolve, hc, Act.eval, Deferred.ofValue, Sem.run_bind, Sem.run_pure, Result.andThen_ok, invoke, run_callFunc hok]
          congr 2
          apply Array.ext'
          simp
        · rintro e w' ⟨u, φ', S', rfl, h4, h5, h6⟩
          exact ⟨u, rfl, hK u w' φ' S' h4 h5 h6⟩
      | _ => simp only [hc] at hop; exact dyn hop
    | invoke _ _ => simp [hc] at hop
  | _ => simp [ho] at hop

theorem opA_wp (hG : Good P h E) {v : PV} (hI : Inv φ H w S B) (ht : TRel φ w S N tm a) (hop : opA P h E H (ev tm) o = some (v, H'))
    (hK : ∀ u w' φ' S', Inv φ' H' w' S' B → Evo H.length B φ S w φ' S' w' → VRel φ' w' S' v u → K (a.put o.dst u) w') : o.wp P a w K Q := by
  cases hw : isW h o with
  | true => rw [opA_W hw] at hop; exact opW_wp hG hI ht hop hK
  | false =>
    rw [opA_R hw] at hop
    unfold outR at hop
    cases hr : opR P h E H H.length (ev tm) o with
    | none => simp [hr] at hop
    | some x =>
      obtain ⟨q, ms, fz⟩ := x
      simp only [hr, Option.map_some, Option.some.injEq, Prod.mk.injEq] at hop
      obtain ⟨rfl, rfl⟩ := hop
      obtain ⟨S1, h1, h2, h3⟩ := hI.freeze fz
      have hlen := freeze_length fz H
      have hI1 : Inv φ (freeze fz H ++ ms) w S1 B := h1.reheap (fun j l hj => .inl (by rw [List.getElem?_append_left (h1.live j l hj).2.2])) (by simp)
      have ht1 : TRel φ w S1 N tm a := ⟨ht.1, ht.2.1, fun i p hp => ⟨(ht.2.2 i p hp).1, (ht.2.2 i p hp).2.evo h2 hI (Nat.le_refl _)⟩⟩
      refine opR_wp hG hI1 ht1 (opR_mono (Sub.freeze fz H ms) hr) ?_ ?_ ?_
      · exact newAt_app hI hlen ms
      · intro id hid l es z m hl hm
        have hlt := (hI.live id l hl).2.2
        rw [List.getElem?_append_left (by omega)] at hm
        obtain ⟨m', hm'⟩ := freeze_row fz H id es z m hm
        exact h3 id hid l es z m' hl hm'
      · intro u w' φ' S' h4 h5 h6 _
        exact hK u w' φ' S' h4 (h2.trans (h5.mono (by simp [hlen]))) h6

/-! a row of operations -/
theorem putT_sound {dst : Option Tmp} {v : PV} {u : Value} {tm' : List (Nat × PV)} (hp : putT N dst v tm = some tm') (ht : TRel φ w S N tm a) (hv : VRel φ w S v u) : TRel φ w S N tm' (a.put dst u) := by
  unfold putT at hp
  cases dst with
  | none => simp at hp; subst hp; exact ht
  | some d =>
    simp only [] at hp
    obtain ⟨hd, hp⟩ := if_some hp
    cases hp
    refine ⟨by simp [Act.put, ht.1], ht.2.1, ?_⟩
    intro i p hi
    rw [get_cons] at hi
    by_cases hid : i = d
    · subst hid
      rw [if_pos rfl] at hi
      cases hi
      refine ⟨hd, ?_⟩
      have : i < a.tmps.size := by rw [ht.1]; exact hd
      simpa [Act.put, this] using hv
    · rw [if_neg hid] at hi
      obtain ⟨h1, h2⟩ := ht.2.2 i p hi
      refine ⟨h1, ?_⟩
      have : (a.put (some d) u).tmps.getD i undef = a.tmps.getD i undef := by
        simp [Act.put, Array.getElem?_setIfInBounds_ne (fun e => hid e.symm)]
      rw [this]; exact h2
theorem TRel.evo {k : Nat} {φ' : Phi} {S' : Nat → Prop} {w' : World} (ht : TRel φ w S N tm a) (he : Evo k B φ S w φ' S' w') (hI : Inv φ H w S B) (hk : H.length ≤ k) : TRel φ' w' S' N tm a :=
  ⟨ht.1, ht.2.1, fun i p hp => ⟨(ht.2.2 i p hp).1, (ht.2.2 i p hp).2.evo he hI hk⟩⟩

theorem tmp_some {t : Nat} (ht : TRel φ w S N tm a) {p : PV} (hp : get tm t = some p) : a.tmps[t]? = some (a.tmps.getD t undef) := by
  have := (ht.2.2 t p hp).1
  rw [← ht.1] at this
  simp [this]
theorem wants_sound {ops : Array Oper} {b : Bool} (hw : wants ops tm o = some b) (ht : TRel φ w S N tm a) : Region.wanted o (yielded ops a.tmps) = b := by
  unfold wants at hw
  unfold Region.wanted
  cases hg : o.guard with
  | none => simp [hg] at hw ⊢; exact hw
  | some jw =>
    obtain ⟨j, want⟩ := jw
    simp only [hg] at hw ⊢
    unfold yielded
    cases hd : (ops[j]?).bind (·.dst) with
    | none => simp [hd] at hw
    | some d =>
      simp only [hd, Option.bind_some] at hw ⊢
      split at hw
      · rename_i c hc
        cases hw
        have h1 := tmp_some ht hc
        have h2 := (ht.2.2 d _ hc).2
        simp only [VRel] at h2
        rw [h1, h2]
        cases c <;> cases want <;> rfl
      · rename_i hc
        cases hw
        have h1 := tmp_some ht hc
        have h2 := (ht.2.2 d _ hc).2
        simp only [VRel, VL] at h2
        obtain ⟨arr, h3, h4⟩ := h2
        have : arr = #[] := by apply Array.ext'; simpa using h4
        subst this
        rw [h1, h3]
        rfl
      · cases hw

/-- One operation of a row, in its place. -/
theorem stepOp_wp (hG : Good P h E) {ops : Array Oper} {i : Nat} (hi : ops[i]? = some o) {s s' : St} (hst : stepOp P h E N ops o s = some s') (hI : Inv φ s.hp w S B) (ht : TRel φ w S N s.tm a)
    (hK : ∀ a' w' φ' S', Inv φ' s'.hp w' S' B → Evo s.hp.length B φ S w φ' S' w' → TRel φ' w' S' N s'.tm a' → K a' w') : wpOp P ops Q i K a w := by
  unfold stepOp at hst
  obtain ⟨b, hb, hst⟩ := bind1 hst
  have hwant := wants_sound hb ht
  unfold wpOp
  simp only [hi, hwant]
  cases b with
  | true =>
    simp only [cond_true] at hst
    obtain ⟨x, hx, hst⟩ := bind1 hst
    obtain ⟨v, H'⟩ := x
    cases hp : putT N o.dst v s.tm with
    | none => simp [hp] at hst
    | some tm' =>
      simp only [hp, Option.map_some, Option.some.injEq] at hst
      subst hst
      simp only [if_true]
      left
      refine opA_wp hG hI ht hx ?_
      intro u w' φ' S' h1 h2 h3
      exact hK _ w' φ' S' h1 h2 (putT_sound hp (ht.evo h2 hI (Nat.le_refl _)) h3)
  | false =>
    simp only [cond_false] at hst
    cases hp : putT N o.dst (.tup []) s.tm with
    | none => simp [hp] at hst
    | some tm' =>
      simp only [hp, Option.map_some, Option.some.injEq] at hst
      subst hst
      simp only [Bool.false_eq_true, if_false]
      exact hK _ w φ S hI (Evo.refl _ _ _ _ _) (putT_sound hp ht undef_rel)

/-! memory only grows -/
theorem storeH_len {t : TypeId} {x y : PV} (hs : storeH P H t x y = some H') : H'.length = H.length := by
  unfold storeH at hs
  split at hs
  · split at hs
    · obtain ⟨c, _, hs⟩ := bind1 hs
      obtain ⟨n, _, hs⟩ := bind1 hs
      obtain ⟨_, hs⟩ := if_some hs
      cases hs; simp
    · cases hs
  · cases hs
theorem appendS_len {z by_ : Nat} {s v : PV} {new : List (List PV)} (hs : appendS H z by_ s new = some (v, H')) : H.length ≤ H'.length := by
  unfold appendS at hs
  split at hs
  · split at hs
    · cases hs; exact Nat.le_refl _
    · obtain ⟨_, hs⟩ := if_some hs
      cases hs; simp
  · split at hs
    · obtain ⟨_, hs⟩ := if_some hs
      split at hs
      · cases hs; exact Nat.le_refl _
      · split at hs
        · obtain ⟨_, hs⟩ := if_some hs
          cases hs; simp
        · obtain ⟨_, hs⟩ := if_some hs
          cases hs; simp
    · cases hs
  · cases hs
theorem appendH_len {ts : Array TypeId} {s x v : PV} (hs : appendH P H ts s x = some (v, H')) : H.length ≤ H'.length := by
  unfold appendH at hs
  obtain ⟨t, _, hs⟩ := bind1 hs
  obtain ⟨e, _, hs⟩ := bind1 hs
  obtain ⟨z, _, hs⟩ := bind1 hs
  obtain ⟨b, _, hs⟩ := bind1 hs
  obtain ⟨zero, _, hs⟩ := bind1 hs
  obtain ⟨new, _, hs⟩ := bind1 hs
  obtain ⟨_, hs⟩ := if_some hs
  exact appendS_len hs
theorem appendF_len {ts : Array TypeId} {s x v : PV} (hs : appendF P h H ts s x = some (v, H')) : H.length ≤ H'.length := by
  unfold appendF at hs
  cases hf : frzT h ts with
  | false => rw [hf, cond_false] at hs; exact appendH_len hs
  | true =>
    rw [hf, cond_true] at hs
    obtain ⟨x', _, h2⟩ := bind1 hs
    have := appendH_len h2
    rwa [freeze_length] at this
theorem copyH_len {ts : Array TypeId} {s x v : PV} (hs : copyH P H ts s x = some (v, H')) : H.length ≤ H'.length := by
  unfold copyH at hs
  obtain ⟨t, _, hs⟩ := bind1 hs
  obtain ⟨e, _, hs⟩ := bind1 hs
  obtain ⟨z, _, hs⟩ := bind1 hs
  obtain ⟨src, _, hs⟩ := bind1 hs
  obtain ⟨_, hs⟩ := if_some hs
  split at hs
  · cases hs; exact Nat.le_refl _
  · split at hs
    · obtain ⟨_, hs⟩ := if_some hs
      cases hs; simp
    · cases hs
  · cases hs
theorem clearH_len {ts : Array TypeId} {s v : PV} (hs : clearH P H ts s = some (v, H')) : H.length ≤ H'.length := by
  unfold clearH at hs
  obtain ⟨t, _, hs⟩ := bind1 hs
  obtain ⟨e, _, hs⟩ := bind1 hs
  obtain ⟨z, _, hs⟩ := bind1 hs
  obtain ⟨zero, _, hs⟩ := bind1 hs
  obtain ⟨_, hs⟩ := if_some hs
  split at hs
  · cases hs; exact Nat.le_refl _
  · split at hs
    · obtain ⟨_, hs⟩ := if_some hs
      cases hs; simp
    · cases hs
  · cases hs
theorem wMap_len {t : TypeId} {m k x : Option PV} {v : PV} (hs : wMap P H t m k x = some (v, H')) : H.length ≤ H'.length := by
  unfold wMap at hs
  obtain ⟨_, _, hs⟩ := bind1 hs
  obtain ⟨m, _, hs⟩ := bind1 hs
  obtain ⟨k, _, hs⟩ := bind1 hs
  obtain ⟨x, _, hs⟩ := bind1 hs
  obtain ⟨key, _, hs⟩ := bind1 hs
  split at hs
  · split at hs
    · rename_i es _
      cases hp : mapPut key x es with
      | none => simp [hp] at hs
      | some es' =>
        simp only [hp, Option.map_some, Option.some.injEq, Prod.mk.injEq] at hs
        obtain ⟨_, rfl⟩ := hs
        simp
    · cases hs
  · cases hs
theorem outR_len {r : Res} {v : PV} (hs : outR H r = some (v, H')) : H.length ≤ H'.length := by
  unfold outR at hs
  cases r with
  | none => simp at hs
  | some x =>
    obtain ⟨q, ms, fz⟩ := x
    simp only [Option.map_some, Option.some.injEq, Prod.mk.injEq] at hs
    obtain ⟨_, rfl⟩ := hs
    simp [freeze_length]
theorem callAny_len (hG : Good P h E) {f : FuncId} {args : List PV} {v : PV} (hc : callAny h E f args H = some (v, H')) : H.length ≤ H'.length := by
  unfold callAny at hc
  split at hc
  · exact hG.len _ _ _ _ _ hc
  · exact outR_len hc
theorem opW_len (hG : Good P h E) {ρ : Operand → Option PV} {v : PV} (hop : opW P h E H ρ o = some (v, H')) : H.length ≤ H'.length := by
  unfold opW at hop
  split at hop
  · rename_i t _ _ _
    unfold wStore at hop
    obtain ⟨p, _, hop⟩ := bind1 hop
    obtain ⟨q, _, hop⟩ := bind1 hop
    cases hs : storeH P H t p q with
    | none => simp [hs] at hop
    | some H2 =>
      simp only [hs, Option.map_some, Option.some.injEq, Prod.mk.injEq] at hop
      obtain ⟨_, rfl⟩ := hop
      rw [storeH_len hs]; exact Nat.le_refl _
  · exact wMap_len hop
  · exact wMap_len hop
  · unfold wCall at hop
    split at hop
    · unfold wBuiltin at hop
      split at hop
      · unfold wAppend at hop
        obtain ⟨vs, _, hop⟩ := bind1 hop
        split at hop
        · exact appendF_len hop
        · cases hop
      · unfold wCopy at hop
        obtain ⟨vs, _, hop⟩ := bind1 hop
        split at hop
        · exact copyH_len hop
        · cases hop
      · unfold wClear at hop
        obtain ⟨vs, _, hop⟩ := bind1 hop
        split at hop
        · exact clearH_len hop
        · cases hop
      · cases hop
    · unfold wOpen at hop
      obtain ⟨vs, _, hop⟩ := bind1 hop
      exact callAny_len hG hop
    · unfold wDyn at hop
      obtain ⟨fv, _, hop⟩ := bind1 hop
      split at hop
      · obtain ⟨vs, _, hop⟩ := bind1 hop
        exact callAny_len hG hop
      · cases hop
    · cases hop
  · cases hop
theorem opA_len (hG : Good P h E) {ρ : Operand → Option PV} {v : PV} (hop : opA P h E H ρ o = some (v, H')) : H.length ≤ H'.length := by
  cases hw : isW h o with
  | true => rw [opA_W hw] at hop; exact opW_len hG hop
  | false => rw [opA_R hw] at hop; exact outR_len hop
theorem stepOp_len (hG : Good P h E) {ops : Array Oper} {s s' : St} (hst : stepOp P h E N ops o s = some s') : s.hp.length ≤ s'.hp.length := by
  unfold stepOp at hst
  obtain ⟨b, _, hst⟩ := bind1 hst
  cases b with
  | true =>
    simp only [cond_true] at hst
    obtain ⟨⟨v, H'⟩, hx, hst⟩ := bind1 hst
    cases hp : putT N o.dst v s.tm with
    | none => simp [hp] at hst
    | some tm' =>
      simp only [hp, Option.map_some, Option.some.injEq] at hst
      subst hst
      exact opA_len hG hx
  | false =>
    simp only [cond_false] at hst
    cases hp : putT N o.dst (.tup []) s.tm with
    | none => simp [hp] at hst
    | some tm' =>
      simp only [hp, Option.map_some, Option.some.injEq] at hst
      subst hst
      exact Nat.le_refl _

/-- A row of operations from the i-th on, in the order of the text. -/
theorem stepOps_wp (hG : Good P h E) {ops : Array Oper} (base : Nat) : ∀ (l : List Oper) (i : Nat) (s s' : St) (φ : Phi) (S : Nat → Prop) (a : Act) (w : World), ops.toList.drop i = l → stepOps P h E N ops l s = some s' → Inv φ s.hp w S B → TRel φ w S N s.tm a → base ≤ s.hp.length →
    (∀ a' w' φ' S', Inv φ' s'.hp w' S' B → Evo base B φ S w φ' S' w' → TRel φ' w' S' N s'.tm a' → base ≤ s'.hp.length → Q .normal a' w') → wpOps P ops Q ((List.range ops.size).drop i) a w
  | [], i, s, s', φ, S, a, w, hl, hst, hI, ht, hb, hQ => by
    have hsi : ops.size ≤ i := by
      have := List.drop_eq_nil_iff.1 hl
      simpa using this
    rw [List.drop_eq_nil_of_le (by simpa using hsi)]
    cases hst
    exact hQ a w φ S hI (Evo.refl _ _ _ _ _) ht hb
  | o :: l, i, s, s', φ, S, a, w, hl, hst, hI, ht, hb, hQ => by
    have hlt : i < ops.size := by
      rcases Nat.lt_or_ge i ops.size with h | h
      · exact h
      · rw [List.drop_eq_nil_of_le (by simpa using h)] at hl; cases hl
    have hi : ops[i]? = some o := by
      have : (ops.toList.drop i)[0]? = some o := by rw [hl]; rfl
      rw [List.getElem?_drop] at this
      simpa using this
    have hl' : ops.toList.drop (i + 1) = l := by rw [← List.drop_drop, hl]; rfl
    obtain ⟨s1, h1, h2⟩ := bind1 (x := stepOp P h E N ops o s) (f := fun s => stepOps P h E N ops l s) hst
    have hr : (List.range ops.size).drop i = i :: (List.range ops.size).drop (i + 1) := by
      rw [List.drop_eq_getElem_cons (by simpa using hlt)]
      simp
    rw [hr, wpOps_cons]
    refine stepOp_wp hG hi h1 hI ht ?_
    intro a' w' φ' S' h3 h4 h5
    have hlen : s.hp.length ≤ s1.hp.length := stepOp_len hG h1
    refine stepOps_wp hG base l (i + 1) s1 s' φ' S' a' w' hl' h2 h3 h5 (by omega) ?_
    intro a'' w'' φ'' S'' h6 h7 h8 h9
    exact hQ a'' w'' φ'' S'' h6 ((h4.mono hb).trans h7) h8 h9

end
end Go.Am
