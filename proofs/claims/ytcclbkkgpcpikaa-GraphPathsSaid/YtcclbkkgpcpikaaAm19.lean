/-
  Masks of the variables at a loop's head; own memory numbered anew.
-/
import Derived.Test.YtcclbkkgpcpikaaAm8
set_option linter.unusedSimpArgs false
set_option linter.unusedVariables false
namespace Go.Am
open Go.RowKit

section
variable {P : Program} {h : Hints} {E : Ev} {w : World} {φ φ' : Phi} {S : Nat → Prop} {B : Nat} {N : Nat} {tm : List (Nat × PV)} {a : Act} {H : List Mem}

theorem keepT_get {tm : List (Nat × PV)} : ∀ {ks : List Nat} {t : Nat} {p : PV}, get (keepT tm ks) t = some p → get tm t = some p
  | [], t, p, h => by simp [keepT, get_nil] at h
  | k :: r, t, p, h => by
    simp only [keepT] at h
    split at h
    · rename_i v hv
      rw [get_cons] at h
      split at h
      · rename_i e; subst e; cases h; exact hv
      · exact keepT_get h
    · exact keepT_get h
theorem keepT_rel (ht : TRel φ w S N tm a) (ks : List Nat) : TRel φ w S N (keepT tm ks) a := ⟨ht.1, ht.2.1, fun i p hp => ht.2.2 i p (keepT_get hp)⟩

theorem noIds_list : ∀ {l : List PV} {vs : List Value}, (∀ p ∈ l, ∀ v, VRel φ w S p v → VRel φ' w S p v) → VL φ w S l vs → VL φ' w S l vs
  | [], _, _, h => by simpa only [VL] using h
  | p :: ps, _, hp, h => by
    simp only [VL] at h ⊢
    obtain ⟨v, r, h1, h2, h3⟩ := h
    exact ⟨v, r, h1, hp p List.mem_cons_self v h2, noIds_list (fun q hq => hp q (List.mem_cons_of_mem _ hq)) h3⟩
theorem noIds_rel {p : PV} (hn : noIds p = true) {v : Value} (hv : VRel φ w S p v) : VRel φ' w S p v := by
  cases p <;> simp only [noIds] at hn <;> try (cases hn; done)
  case func f x y =>
    simp only [Bool.and_eq_true, List.isEmpty_iff] at hn
    obtain ⟨rfl, rfl⟩ := hn
    simpa only [VRel, VL] using hv
  case agg cs =>
    simp only [VRel] at hv ⊢
    obtain ⟨arr, h1, h2, h3⟩ := hv
    refine ⟨arr, h1, h2, noIds_list (fun q hq v hv => ?_) h3⟩
    have := List.all_eq_true.1 hn q hq
    cases q <;> simp only [] at this <;> first | (cases this; done) | (simpa only [VRel] using hv)
  case tup vs =>
    simp only [List.isEmpty_iff] at hn
    subst hn
    simpa only [VRel, VL] using hv
  all_goals simpa only [VRel] using hv
theorem noIds_VC : ∀ {l : List PV} {b o : Nat}, (∀ p ∈ l, noIds p = true) → VC φ w S l b o → VC φ' w S l b o
  | [], _, _, _, _ => trivial
  | p :: ps, b, o, hn, h => by
    obtain ⟨⟨h1, v, hv, hr⟩, ht⟩ := h
    exact ⟨⟨h1, v, hv, noIds_rel (hn p List.mem_cons_self) hr⟩, noIds_VC (fun q hq => hn q (List.mem_cons_of_mem _ hq)) ht⟩
theorem noIds_VE : ∀ {l : List (List PV)} {b o : Nat}, (∀ c ∈ l, ∀ p ∈ c, noIds p = true) → VE φ w S l b o → VE φ' w S l b o
  | [], _, _, _, _ => trivial
  | c :: cs, b, o, hn, h => ⟨noIds_VC (hn c List.mem_cons_self) h.1, noIds_VE (fun q hq => hn q (List.mem_cons_of_mem _ hq)) h.2⟩
theorem noIds_VM : ∀ {l : List (PV × PV)} {es : List MapEntry}, (∀ x ∈ l, noIds x.1 = true ∧ noIds x.2 = true) → VM φ w S l es → VM φ' w S l es
  | [], _, _, h => h
  | (k, v) :: r, es, hn, h => by
    obtain ⟨e, l', h1, h2, h3, h4⟩ := h
    have := hn (k, v) List.mem_cons_self
    exact ⟨e, l', h1, noIds_rel this.1 h2, noIds_rel this.2 h3, noIds_VM (fun q hq => hn q (List.mem_cons_of_mem _ hq)) h4⟩

/-- The places by the new numbers. -/
def reφ (φ : Phi) (ids : List Nat) : Phi := fun i => (ids[i]?).bind φ

theorem pos_get {i : Nat} : ∀ {l : List Nat}, i ∈ l → l[pos i l]? = some i
  | j :: r, h => by
    simp only [pos]
    by_cases hij : i = j
    · subst hij; simp
    · have : Nat.beq i j = false := by cases hb : Nat.beq i j with
        | true => exact absurd (Nat.eq_of_beq_eq_true hb) hij
        | false => rfl
      rw [this, cond_false]
      rcases List.mem_cons.1 h with h | h
      · exact absurd h hij
      · simpa using pos_get h
theorem ren1_rel {ids : List Nat} {p : PV} (hids : ∀ i ∈ idsOf1 p, i ∈ ids) (hok : okIds1 p = true) {v : Value} (hv : VRel φ w S p v) : VRel (reφ φ ids) w S (ren1 ids p) v := by
  have key : ∀ {i : Nat} {l : Loc}, i ∈ ids → φ i = some l → reφ φ ids (pos i ids) = some l := fun hi hl => by
    unfold reφ; rw [pos_get hi]; exact hl
  cases p <;> simp only [okIds1] at hok <;> try (cases hok; done)
  case ref id i n room =>
    simp only [ren1, VRel] at hv ⊢
    obtain ⟨l, a, c, h1, h2⟩ := hv
    exact ⟨l, a, c, key (hids id (by simp [idsOf1])) h1, h2⟩
  case ptr id i r =>
    simp only [ren1, VRel] at hv ⊢
    obtain ⟨l, h1, h2⟩ := hv
    exact ⟨l, key (hids id (by simp [idsOf1])) h1, h2⟩
  case map id =>
    simp only [ren1, VRel] at hv ⊢
    obtain ⟨l, h1, h2⟩ := hv
    exact ⟨l, key (hids id (by simp [idsOf1])) h1, h2⟩
  all_goals simpa only [ren1, VRel] using hv
theorem ren1_list {ids : List Nat} : ∀ {l : List PV} {vs : List Value}, (∀ p ∈ l, (∀ i ∈ idsOf1 p, i ∈ ids) ∧ okIds1 p = true) → VL φ w S l vs → VL (reφ φ ids) w S (l.map (ren1 ids)) vs
  | [], _, _, h => by simpa only [List.map_nil, VL] using h
  | p :: ps, _, hp, h => by
    simp only [VL] at h
    obtain ⟨v, r, h1, h2, h3⟩ := h
    have := hp p List.mem_cons_self
    simp only [List.map_cons, VL]
    exact ⟨v, r, h1, ren1_rel this.1 this.2 h2, ren1_list (fun q hq => hp q (List.mem_cons_of_mem _ hq)) h3⟩
theorem ren1_one (ids : List Nat) (p : PV) : oneP (ren1 ids p) = oneP p := by cases p <;> rfl
theorem ren_rel {ids : List Nat} {p : PV} (hids : ∀ i ∈ idsOf p, i ∈ ids) (hok : okIds p = true) {v : Value} (hv : VRel φ w S p v) : VRel (reφ φ ids) w S (ren ids p) v := by
  cases p <;> simp only [okIds, idsOf] at hok hids
  case agg cs =>
    simp only [ren, VRel] at hv ⊢
    obtain ⟨arr, h1, h2, h3⟩ := hv
    refine ⟨arr, h1, ?_, ren1_list (fun q hq => ⟨fun i hi => hids i (List.mem_flatMap.2 ⟨q, hq, hi⟩), List.all_eq_true.1 hok q hq⟩) h3⟩
    intro c hc
    obtain ⟨q, hq, rfl⟩ := List.mem_map.1 hc
    rw [ren1_one]; exact h2 q hq
  case func f x y =>
    simp only [Bool.and_eq_true, List.all_eq_true] at hok
    simp only [ren, VRel] at hv ⊢
    obtain ⟨fs, cs, h1, h2, h3⟩ := hv
    exact ⟨fs, cs, h1, ren1_list (fun q hq => ⟨fun i hi => hids i (List.mem_append_left _ (List.mem_flatMap.2 ⟨q, hq, hi⟩)), hok.1 q hq⟩) h2,
      ren1_list (fun q hq => ⟨fun i hi => hids i (List.mem_append_right _ (List.mem_flatMap.2 ⟨q, hq, hi⟩)), hok.2 q hq⟩) h3⟩
  case tup vs =>
    simp only [List.isEmpty_iff] at hok
    subst hok
    simpa only [ren, ren1, VRel, VL] using hv
  all_goals (simp only [ren]; exact ren1_rel hids rfl hv)

theorem addNew_spec : ∀ (xs ids : List Nat), ids.Nodup → (xs.foldl addNew ids).Nodup ∧ (∀ i ∈ ids, i ∈ xs.foldl addNew ids) ∧ ∀ i ∈ xs, i ∈ xs.foldl addNew ids
  | [], ids, hn => ⟨hn, fun _ h => h, by simp⟩
  | x :: xs, ids, hn => by
    have hn' : (addNew ids x).Nodup := by
      unfold addNew
      split
      · exact hn
      · rename_i hx
        rw [List.nodup_append]
        refine ⟨hn, by simp, ?_⟩
        intro a ha b hb
        simp at hb; subst hb
        rintro rfl
        exact hx (by simpa using ha)
    have hin : ∀ i ∈ ids, i ∈ addNew ids x := by
      intro i hi
      unfold addNew; split
      · exact hi
      · exact List.mem_append_left _ hi
    have hx : x ∈ addNew ids x := by
      unfold addNew; split
      · rename_i h; simpa using h
      · simp
    obtain ⟨h1, h2, h3⟩ := addNew_spec xs (addNew ids x) hn'
    refine ⟨h1, fun i hi => h2 i (hin i hi), fun i hi => ?_⟩
    rcases List.mem_cons.1 hi with rfl | hi
    · exact h2 i hx
    · exact h3 i hi

theorem get_map (ids : List Nat) : ∀ (tm : List (Nat × PV)) (t : Nat), get (tm.map fun x => (x.1, ren ids x.2)) t = (get tm t).map (ren ids)
  | [], t => rfl
  | (j, v) :: r, t => by
    rw [List.map_cons, get_cons, get_cons, get_map ids r t]
    split <;> rfl
theorem get_mem : ∀ {tm : List (Nat × PV)} {t : Nat} {p : PV}, get tm t = some p → (t, p) ∈ tm
  | [], t, p, h => by simp [get_nil] at h
  | (j, v) :: r, t, p, h => by
    rw [get_cons] at h
    split at h
    · rename_i e; subst e; cases h; exact List.mem_cons_self
    · exact List.mem_cons_of_mem _ (get_mem h)
theorem omap_at {α β : Type} {f : α → Option β} : ∀ {l : List α} {r : List β}, omap f l = some r → r.length = l.length ∧ ∀ i : Nat, r[i]? = (l[i]?).bind f
  | [], r, h => by simp [omap_nil] at h; subst h; simp
  | x :: l, r, h => by
    obtain ⟨b, s, h1, h2, rfl⟩ := omap_cons_some h
    obtain ⟨h3, h4⟩ := omap_at h2
    refine ⟨by simp [h3], fun i => ?_⟩
    cases i with
    | zero => simp [h1]
    | succ i => simpa using h4 i

theorem closeIds_spec (H : List Mem) : ∀ (n : Nat) (ids : List Nat), ids.Nodup → (closeIds H n ids).Nodup ∧ ∀ i ∈ ids, i ∈ closeIds H n ids
  | 0, _, hn => ⟨hn, fun _ h => h⟩
  | n + 1, ids, hn => by
    obtain ⟨h1, h2, _⟩ := addNew_spec (ids.flatMap (idsAt H)) ids hn
    obtain ⟨h3, h4⟩ := closeIds_spec H n _ h1
    exact ⟨h3, fun i hi => h4 i (h2 i hi)⟩

theorem ren_len1 (ids : List Nat) (c : List PV) : (c.map (ren ids)).length = c.length := by simp
theorem ren_one (ids : List Nat) (p : PV) : oneP (ren ids p) = oneP p := by cases p <;> rfl
theorem ren_VC {ids : List Nat} : ∀ {l : List PV} {b o : Nat}, (∀ p ∈ l, okIds p = true ∧ ∀ i ∈ idsOf p, i ∈ ids) → VC φ w S l b o → VC (reφ φ ids) w S (l.map (ren ids)) b o
  | [], _, _, _, _ => trivial
  | p :: ps, b, o, hn, h => by
    obtain ⟨⟨h1, v, hv, hr⟩, ht⟩ := h
    have := hn p List.mem_cons_self
    exact ⟨⟨by rw [ren_one]; exact h1, v, hv, ren_rel this.2 this.1 hr⟩, ren_VC (fun q hq => hn q (List.mem_cons_of_mem _ hq)) ht⟩
theorem ren_VE {ids : List Nat} : ∀ {l : List (List PV)} {b o : Nat}, (∀ c ∈ l, ∀ p ∈ c, okIds p = true ∧ ∀ i ∈ idsOf p, i ∈ ids) → VE φ w S l b o → VE (reφ φ ids) w S (l.map fun c => c.map (ren ids)) b o
  | [], _, _, _, _ => trivial
  | c :: cs, b, o, hn, h => ⟨ren_VC (hn c List.mem_cons_self) h.1, by
      have := ren_VE (fun q hq => hn q (List.mem_cons_of_mem _ hq)) h.2
      simpa using this⟩
theorem ren_VM {ids : List Nat} : ∀ {l : List (PV × PV)} {es : List MapEntry}, (∀ x ∈ l, (okIds x.1 = true ∧ ∀ i ∈ idsOf x.1, i ∈ ids) ∧ (okIds x.2 = true ∧ ∀ i ∈ idsOf x.2, i ∈ ids)) → VM φ w S l es → VM (reφ φ ids) w S (l.map fun x => (ren ids x.1, ren ids x.2)) es
  | [], _, _, h => h
  | (k, v) :: r, es, hn, h => by
    obtain ⟨e, l', h1, h2, h3, h4⟩ := h
    have := hn (k, v) List.mem_cons_self
    exact ⟨e, l', h1, ren_rel this.1.2 this.1.1 h2, ren_rel this.2.2 this.2.1 h3, ren_VM (fun q hq => hn q (List.mem_cons_of_mem _ hq)) h4⟩

/-- What a row becomes under the new numbers. -/
theorem renM_row {ids : List Nat} {m : Mem} {es : List (List PV)} {z : Nat} {b : Bool} (hr : renM ids m = .row es z b) (hok : okM m = true) (hin : ∀ i ∈ idsM m, i ∈ ids) {l : Loc} (hrow : ∀ es z b, m = .row es z b → RowAt φ w S l es z b) : RowAt (reφ φ ids) w S l es z b := by
  unfold renM at hr
  cases hf : flatM m with
  | true =>
    rw [hf, cond_true] at hr
    have h1 := hrow es z b hr
    subst hr
    refine ⟨h1.zs, h1.top, h1.wid, noIds_VE (fun c hc p hp => ?_) h1.cells, h1.blk, h1.own, h1.frz⟩
    simp only [flatM, List.all_eq_true] at hf
    exact hf c hc p hp
  | false =>
    rw [hf, cond_false] at hr
    cases m with
    | row es0 z0 b0 =>
      simp only [Mem.row.injEq] at hr
      obtain ⟨rfl, rfl, rfl⟩ := hr
      have h1 := hrow es0 z0 b0 rfl
      simp only [okM, hf, cond_false, List.all_eq_true] at hok
      simp only [idsM, hf, cond_false, List.mem_flatMap] at hin
      refine ⟨h1.zs, by simpa using h1.top, ?_, ren_VE (fun c hc p hp => ⟨hok c hc p hp, fun i hi => hin i ⟨c, hc, p, hp, hi⟩⟩) h1.cells, h1.blk, h1.own, h1.frz⟩
      intro c hc
      obtain ⟨c0, hc0, rfl⟩ := List.mem_map.1 hc
      simpa using h1.wid c0 hc0
    | map _ => cases hr
    | dead => cases hr
theorem renM_map {ids : List Nat} {m : Mem} {es : List (PV × PV)} (hr : renM ids m = .map es) (hok : okM m = true) (hin : ∀ i ∈ idsM m, i ∈ ids) {l : List MapEntry} : ∃ es0, m = .map es0 ∧ (VM φ w S es0 l → VM (reφ φ ids) w S es l) := by
  unfold renM at hr
  cases hf : flatM m with
  | true =>
    rw [hf, cond_true] at hr
    subst hr
    refine ⟨es, rfl, noIds_VM fun x hx => ?_⟩
    simp only [flatM, List.all_eq_true] at hf
    simpa using hf x hx
  | false =>
    rw [hf, cond_false] at hr
    cases m with
    | map es0 =>
      simp only [Mem.map.injEq] at hr
      subst hr
      simp only [okM, hf, cond_false, List.all_eq_true, Bool.and_eq_true] at hok
      simp only [idsM, hf, cond_false, List.mem_flatMap, List.mem_append] at hin
      exact ⟨es0, rfl, ren_VM fun x hx => ⟨⟨(hok x hx).1, fun i hi => hin i ⟨x, hx, .inl hi⟩⟩, ⟨(hok x hx).2, fun i hi => hin i ⟨x, hx, .inr hi⟩⟩⟩⟩
    | row _ _ _ => cases hr
    | dead => cases hr
theorem renM_alive (ids : List Nat) (m : Mem) : (renM ids m).alive = m.alive := by
  unfold renM
  cases flatM m with
  | true => rfl
  | false => cases m <;> rfl

theorem compact_sound {st : St} (hc : compact tm H = some st) (hI : Inv φ H w S B) (ht : TRel φ w S N tm a) : ∃ φ', Inv φ' st.hp w S B ∧ TRel φ' w S N st.tm a := by
  unfold compact at hc
  simp only [] at hc
  split at hc
  · rename_i hall
    obtain ⟨hn0, _, hin0⟩ := addNew_spec (tm.flatMap fun x => idsOf x.2) [] List.nodup_nil
    obtain ⟨hn, hin1⟩ := closeIds_spec H 3 _ hn0
    have hin : ∀ i ∈ tm.flatMap fun x => idsOf x.2, i ∈ closeIds H 3 ((tm.flatMap fun x => idsOf x.2).foldl addNew []) := fun i hi => hin1 i (hin0 i hi)
    generalize closeIds H 3 ((tm.flatMap fun x => idsOf x.2).foldl addNew []) = ids at hc hn hin
    cases ho : omap (fun i => (H[i]?).bind fun m => if okM m && (idsM m).all ids.contains then some (renM ids m) else none) ids with
    | none => rw [ho] at hc; cases hc
    | some H' =>
      rw [ho] at hc
      simp only [Option.map_some, Option.some.injEq] at hc
      subst hc
      obtain ⟨hlen, hget⟩ := omap_at ho
      have hm : ∀ (i : Nat) (m : Mem), H'[i]? = some m → ∃ id m0, ids[i]? = some id ∧ H[id]? = some m0 ∧ m = renM ids m0 ∧ okM m0 = true ∧ ∀ j ∈ idsM m0, j ∈ ids := by
        intro i m hm
        rw [hget i] at hm
        obtain ⟨id, h1, hm⟩ := bind1 hm
        obtain ⟨m', h2, hm⟩ := bind1 hm
        obtain ⟨hf, hm⟩ := if_some hm
        cases hm
        simp only [Bool.and_eq_true, List.all_eq_true] at hf
        exact ⟨id, m', h1, h2, rfl, hf.1, fun j hj => by simpa using hf.2 j hj⟩
      have hφ : ∀ i l, reφ φ ids i = some l → ∃ id, ids[i]? = some id ∧ φ id = some l := fun i l h => bind1 h
      refine ⟨reφ φ ids, ⟨?_, ?_, ?_, ?_, hI.stable, hI.base⟩, ht.1, ht.2.1, ?_⟩
      · intro i l hl
        obtain ⟨id, h1, h2⟩ := hφ i l hl
        have := hI.live id l h2
        have hlt := (List.getElem?_eq_some_iff.1 h1).1
        exact ⟨this.1, this.2.1, by show i < H'.length; omega⟩
      · intro i l es z m hl hm'
        obtain ⟨id, h1, h2⟩ := hφ i l hl
        obtain ⟨id', m0, h3, h4, h5, h6, h7⟩ := hm i _ hm'
        rw [h1] at h3; cases h3
        exact renM_row h5.symm h6 h7 fun es z b e => hI.row id l es z b h2 (by rw [h4, e])
      · intro i l es hl hm'
        obtain ⟨id, h1, h2⟩ := hφ i l hl
        obtain ⟨id', m0, h3, h4, h5, h6, h7⟩ := hm i _ hm'
        rw [h1] at h3; cases h3
        obtain ⟨es0, rfl, _⟩ := renM_map (φ := φ) (w := w) (S := S) (l := []) h5.symm h6 h7
        obtain ⟨h8, ents, clock, h9, h10⟩ := hI.map id l es0 h2 h4
        obtain ⟨es1, he1, h11⟩ := renM_map (φ := φ) (w := w) (S := S) (l := ents.toList) h5.symm h6 h7
        cases he1
        exact ⟨h8, ents, clock, h9, h11 h10⟩
      · intro i i' l l' m m' hne hl hl' hmi hmi' ha ha'
        obtain ⟨id, h1, h2⟩ := hφ i l hl
        obtain ⟨id', h1', h2'⟩ := hφ i' l' hl'
        obtain ⟨x, m0, h3, h4, h5, _⟩ := hm i _ hmi
        obtain ⟨x', m0', h3', h4', h5', _⟩ := hm i' _ hmi'
        rw [h1] at h3; cases h3
        rw [h1'] at h3'; cases h3'
        refine hI.apart id id' l l' m0 m0' ?_ h2 h2' h4 h4' (by rw [h5, renM_alive] at ha; exact ha) (by rw [h5', renM_alive] at ha'; exact ha')
        rintro rfl
        have e1 := List.getElem?_eq_some_iff.1 h1
        have e2 := List.getElem?_eq_some_iff.1 h1'
        obtain ⟨g1, g2⟩ := e1
        obtain ⟨g1', g2'⟩ := e2
        rcases Nat.lt_or_gt_of_ne hne with h9 | h9
        · exact List.pairwise_iff_getElem.1 hn i i' g1 g1' h9 (g2.trans g2'.symm)
        · exact List.pairwise_iff_getElem.1 hn i' i g1' g1 h9 (g2'.trans g2.symm)
      · intro i p hp
        rw [get_map] at hp
        cases hg : get tm i with
        | none => simp [hg] at hp
        | some q =>
          simp only [hg, Option.map_some, Option.some.injEq] at hp
          subst hp
          obtain ⟨h1, h2⟩ := ht.2.2 i q hg
          have hmem := get_mem hg
          have hok := List.all_eq_true.1 hall _ hmem
          exact ⟨h1, ren_rel (fun j hj => hin j (List.mem_flatMap.2 ⟨_, hmem, hj⟩)) hok h2⟩
  · cases hc

/-- The state at a loop's head. -/
theorem maskK_sound {c : Cx} {k : Option (List Nat × Bool)} {s st : St} (hm : maskK k c s = some st) (hI : Inv φ s.hp w S B) (ht : TRel φ w S N s.tm a) (hb : c.base ≤ s.hp.length) :
    ∃ φ', Inv φ' st.hp w S B ∧ TRel φ' w S N st.tm a ∧ c.base ≤ st.hp.length ∧ Evo c.base B φ S w φ' S w := by
  unfold maskK at hm
  split at hm
  · cases hm
    exact ⟨φ, hI, ht, hb, Evo.refl _ _ _ _ _⟩
  · rename_i ks comp
    cases comp with
    | true =>
      simp only [if_true] at hm
      obtain ⟨h0, hm⟩ := if_some hm
      obtain ⟨φ', h1, h2⟩ := compact_sound hm hI (keepT_rel ht ks)
      exact ⟨φ', h1, h2, by omega, ⟨fun id l hid => by omega, fun b hb => ⟨hb, rfl⟩, fun b _ hs => hs, Below.refl _ _⟩⟩
    | false =>
      simp only [Bool.false_eq_true, if_false, Option.some.injEq] at hm
      subst hm
      exact ⟨φ, hI, keepT_rel ht ks, hb, Evo.refl _ _ _ _ _⟩
end
end Go.Am
