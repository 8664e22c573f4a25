/-
  The result of a call as own memory of the caller.
-/
import Derived.Test.YtcclbkkgpcpikaaAm19
set_option linter.unusedSimpArgs false
set_option linter.unusedVariables false
namespace Go.Am
open Go.RowKit

/-- The same, or the same frozen. -/
def FrzM (m m' : Mem) : Prop := m' = m ∨ ∃ es z b, m = .row es z b ∧ m' = .row es z false

section
variable {w w' : World} {φ φc φ' : Phi} {S Sc S' : Nat → Prop} {B base : Nat} {Hs Hc : List Mem}

theorem sh1_rel (hk : ∀ id l, φc id = some l → φ' (base + id) = some l) {p : PV} {v : Value} (hs : self1 p = true ∨ ∀ b, Sc b → S' b) (hok : okIds1 p = true) (hv : VRel φc w' Sc p v) : VRel φ' w' S' (sh1 base p) v := by
  cases p <;> simp only [okIds1] at hok <;> try (cases hok; done)
  case ref id i n room =>
    simp only [sh1, VRel] at hv ⊢
    obtain ⟨l, a, c, h1, h2⟩ := hv
    exact ⟨l, a, c, hk _ _ h1, h2⟩
  case ptr id i r =>
    simp only [sh1, VRel] at hv ⊢
    obtain ⟨l, h1, h2⟩ := hv
    exact ⟨l, hk _ _ h1, h2⟩
  case map id =>
    simp only [sh1, VRel] at hv ⊢
    obtain ⟨l, h1, h2⟩ := hv
    exact ⟨l, hk _ _ h1, h2⟩
  case lst es =>
    simp only [sh1, VRel] at hv ⊢
    rcases hs with hs | hs
    · simp only [self1, List.isEmpty_iff] at hs
      subst hs
      simp only [IRel] at hv ⊢
      obtain ⟨a, c, h1, h2, _⟩ := hv
      exact ⟨a, c, h1, h2, .inl trivial⟩
    · exact IRel.mono (fun b hb => ⟨hs b hb, rfl⟩) _ _ hv
  case box cs r =>
    simp only [sh1, VRel] at hv ⊢
    rcases hs with hs | hs
    · simp [self1] at hs
    · exact IRel.mono (fun b hb => ⟨hs b hb, rfl⟩) _ _ hv
  all_goals simpa only [sh1, VRel] using hv
theorem sh1_list (hk : ∀ id l, φc id = some l → φ' (base + id) = some l) : ∀ {l : List PV} {vs : List Value}, (∀ p ∈ l, (self1 p = true ∨ ∀ b, Sc b → S' b) ∧ okIds1 p = true) → VL φc w' Sc l vs → VL φ' w' S' (l.map (sh1 base)) vs
  | [], _, _, h => by simpa only [List.map_nil, VL] using h
  | p :: ps, _, hp, h => by
    simp only [VL] at h
    obtain ⟨v, r, h1, h2, h3⟩ := h
    have := hp p List.mem_cons_self
    simp only [List.map_cons, VL]
    exact ⟨v, r, h1, sh1_rel hk this.1 this.2 h2, sh1_list hk (fun q hq => hp q (List.mem_cons_of_mem _ hq)) h3⟩
theorem sh_rel (hk : ∀ id l, φc id = some l → φ' (base + id) = some l) {p : PV} {v : Value} (hs : selfP p = true ∨ ∀ b, Sc b → S' b) (hok : okIds p = true) (hv : VRel φc w' Sc p v) : VRel φ' w' S' (sh base p) v := by
  cases p <;> simp only [okIds] at hok
  case agg cs =>
    simp only [sh, VRel] at hv ⊢
    obtain ⟨arr, h1, h2, h3⟩ := hv
    refine ⟨arr, h1, ?_, sh1_list hk (fun q hq => ⟨hs.imp (fun h => List.all_eq_true.1 h q hq) id, List.all_eq_true.1 hok q hq⟩) h3⟩
    intro c hc
    obtain ⟨q, hq, rfl⟩ := List.mem_map.1 hc
    have := h2 q hq
    cases q <;> first | rfl | (simp [oneP] at this)
  case func f x y =>
    simp only [Bool.and_eq_true, List.all_eq_true] at hok
    simp only [sh, VRel] at hv ⊢
    obtain ⟨fs, cs, h1, h2, h3⟩ := hv
    have hs' : (x.all self1 = true ∧ y.all self1 = true) ∨ ∀ b, Sc b → S' b := hs.imp (fun h => by simpa only [selfP, Bool.and_eq_true] using h) id
    exact ⟨fs, cs, h1, sh1_list hk (fun q hq => ⟨hs'.imp (fun h => List.all_eq_true.1 h.1 q hq) id, hok.1 q hq⟩) h2, sh1_list hk (fun q hq => ⟨hs'.imp (fun h => List.all_eq_true.1 h.2 q hq) id, hok.2 q hq⟩) h3⟩
  case tup vs =>
    simp only [List.isEmpty_iff] at hok
    subst hok
    simpa only [sh, sh1, VRel, VL] using hv
  all_goals (simp only [sh]; exact sh1_rel hk hs rfl hv)
theorem sh_one (p : PV) : oneP (sh base p) = oneP p := by cases p <;> rfl
theorem sh_VL (hk : ∀ id l, φc id = some l → φ' (base + id) = some l) : ∀ {l : List PV} {vs : List Value}, (∀ p ∈ l, (selfP p = true ∨ ∀ b, Sc b → S' b) ∧ okIds p = true) → VL φc w' Sc l vs → VL φ' w' S' (l.map (sh base)) vs
  | [], _, _, h => by simpa only [List.map_nil, VL] using h
  | p :: ps, _, hp, h => by
    simp only [VL] at h
    obtain ⟨v, r, h1, h2, h3⟩ := h
    have := hp p List.mem_cons_self
    simp only [List.map_cons, VL]
    exact ⟨v, r, h1, sh_rel hk this.1 this.2 h2, sh_VL hk (fun q hq => hp q (List.mem_cons_of_mem _ hq)) h3⟩
theorem sh_VC (hk : ∀ id l, φc id = some l → φ' (base + id) = some l) : ∀ {l : List PV} {b o : Nat}, (∀ p ∈ l, (selfP p = true ∨ ∀ b, Sc b → S' b) ∧ okIds p = true) → VC φc w' Sc l b o → VC φ' w' S' (l.map (sh base)) b o
  | [], _, _, _, _ => trivial
  | p :: ps, b, o, hn, h => by
    obtain ⟨⟨h1, v, hv, hr⟩, ht⟩ := h
    have := hn p List.mem_cons_self
    exact ⟨⟨by rw [sh_one]; exact h1, v, hv, sh_rel hk this.1 this.2 hr⟩, sh_VC hk (fun q hq => hn q (List.mem_cons_of_mem _ hq)) ht⟩
theorem sh_VE (hk : ∀ id l, φc id = some l → φ' (base + id) = some l) : ∀ {l : List (List PV)} {b o : Nat}, (∀ c ∈ l, ∀ p ∈ c, (selfP p = true ∨ ∀ b, Sc b → S' b) ∧ okIds p = true) → VE φc w' Sc l b o → VE φ' w' S' (l.map fun c => c.map (sh base)) b o
  | [], _, _, _, _ => trivial
  | c :: cs, b, o, hn, h => ⟨sh_VC hk (hn c List.mem_cons_self) h.1, by
      have := sh_VE hk (fun q hq => hn q (List.mem_cons_of_mem _ hq)) h.2
      simpa using this⟩
theorem sh_VM (hk : ∀ id l, φc id = some l → φ' (base + id) = some l) : ∀ {l : List (PV × PV)} {es : List MapEntry}, (∀ x ∈ l, ((selfP x.1 = true ∨ ∀ b, Sc b → S' b) ∧ okIds x.1 = true) ∧ ((selfP x.2 = true ∨ ∀ b, Sc b → S' b) ∧ okIds x.2 = true)) → VM φc w' Sc l es → VM φ' w' S' (l.map fun x => (sh base x.1, sh base x.2)) es
  | [], _, _, h => h
  | (k, v) :: r, es, hn, h => by
    obtain ⟨e, l', h1, h2, h3, h4⟩ := h
    have := hn (k, v) List.mem_cons_self
    exact ⟨e, l', h1, sh_rel hk this.1.1 this.1.2 h2, sh_rel hk this.2.1 this.2.2 h3, sh_VM hk (fun q hq => hn q (List.mem_cons_of_mem _ hq)) h4⟩

theorem import_sound {ps : List PV} {us : List Value} (hI : Inv φ Hs w S B) (hb : Below w.heap.size w w') (hIc : Inv φc Hc w' Sc w.heap.size)
    (hnew : ∀ (j : Nat) (m : Mem), (Hc.map (shM base))[j]? = some m → ∃ m', Hs[base + j]? = some m' ∧ FrzM m m' ∧ φ (base + j) = none) (hok : Hc.all okMs = true)
    (hself : (Hc.all selfM = true ∧ ∀ y ∈ ps, selfP y = true) ∨ ∀ b, b < w.heap.size → Sc b → S b) (hps : VL φc w' Sc ps us) (hokp : ∀ y ∈ ps, okIds y = true) :
    ∃ φ' S', Inv φ' Hs w' S' B ∧ Evo Hs.length B φ S w φ' S' w' ∧ VL φ' w' S' (ps.map (sh base)) us ∧ ∀ i, ¬ (base ≤ i ∧ i < base + Hc.length) → φ' i = φ i := by
  let φ' : Phi := fun i => if base ≤ i ∧ i < base + Hc.length then φc (i - base) else φ i
  let S' : Nat → Prop := fun b => S b ∨ (w.heap.size ≤ b ∧ b < w'.heap.size ∧ (Sc b ∨ ∃ (j : Nat) (l : Loc) (es : List (List PV)) (z : Nat), φc j = some l ∧ l.b = b ∧ Hs[base + j]? = some (.row es z false)))
  have hst : ∀ b, S' b → b < w'.heap.size := fun b h => h.elim (fun h => Nat.lt_of_lt_of_le (hI.stable b h) hb.size) (fun h => h.2.1)
  obtain ⟨hI1, hE1⟩ := hI.ext (S' := S') hb (fun b h => .inl h) hst (fun b hlt h => h.elim id (fun h => by omega))
  have hin : ∀ {i}, base ≤ i ∧ i < base + Hc.length → φ' i = φc (i - base) := fun {i} h => if_pos h
  have hout : ∀ {i}, ¬ (base ≤ i ∧ i < base + Hc.length) → φ' i = φ i := fun {i} h => if_neg h
  have at_ : ∀ j, j < Hc.length → ∃ m m', Hc[j]? = some m ∧ Hs[base + j]? = some m' ∧ FrzM (shM base m) m' ∧ φ (base + j) = none := by
    intro j hj
    have h1 : Hc[j]? = some Hc[j] := by simp [hj]
    obtain ⟨m', h2, h3, h4⟩ := hnew j (shM base Hc[j]) (by rw [List.getElem?_map, h1]; rfl)
    exact ⟨_, m', h1, h2, h3, h4⟩
  have hk : ∀ id l, φc id = some l → φ' (base + id) = some l := by
    intro id l h
    have := (hIc.live id l h).2.2
    rw [hin ⟨by omega, by omega⟩, show base + id - base = id from by omega]
    exact h
  have hcond : (Hc.all selfM = true ∧ ∀ y ∈ ps, selfP y = true) ∨ ∀ b, Sc b → S' b := by
    rcases hself with h | h
    · exact .inl h
    · refine .inr fun b hb' => ?_
      by_cases hlt : b < w.heap.size
      · exact .inl (h b hlt hb')
      · exact .inr ⟨by omega, hIc.stable b hb', .inl hb'⟩
  have alive_of : ∀ {m m' : Mem}, FrzM (shM base m) m' → m'.alive = m.alive := by
    intro m m' h
    rcases h with rfl | ⟨es, z, b, h1, rfl⟩
    · cases m <;> rfl
    · cases m <;> simp [shM] at h1; rfl
  -- a block of the call's own memory is not stable unless it is frozen
  have free : ∀ {j l m}, φc j = some l → Hc[j]? = some m → m.alive = true → ¬ Sc l.b → (∀ es z, Hs[base + j]? ≠ some (.row es z false)) → ¬ S' l.b := by
    intro j l m hj hm ha hns hnf hs
    have hlj := hIc.live j l hj
    rcases hs with hs | ⟨_, _, hs | ⟨j', l', es, z, h1, h2, h3⟩⟩
    · have := hI.stable _ hs; omega
    · exact hns hs
    · by_cases hjj : j = j'
      · subst hjj; exact hnf _ _ h3
      · obtain ⟨m2, m2', h4, h5, h6, _⟩ := at_ j' (hIc.live j' l' h1).2.2
        rw [h3] at h5; cases h5
        exact hIc.apart j j' l l' m m2 hjj hj h1 hm h4 ha (by rw [← alive_of h6]; rfl) h2.symm
  refine ⟨φ', S', ⟨?_, ?_, ?_, ?_, hst, hI1.base⟩, ⟨?_, hE1.st, hE1.old, hE1.below⟩, ?_, fun i hi => hout hi⟩
  · intro i l hl
    by_cases hi : base ≤ i ∧ i < base + Hc.length
    · rw [hin hi] at hl
      have h1 := hIc.live _ l hl
      obtain ⟨_, m', _, h2, _⟩ := at_ (i - base) (by omega)
      have h3 := (List.getElem?_eq_some_iff.1 h2).1
      have := hI.base
      exact ⟨by omega, h1.2.1, by omega⟩
    · rw [hout hi] at hl
      exact hI1.live i l hl
  · intro i l es z m hl hm
    by_cases hi : base ≤ i ∧ i < base + Hc.length
    · rw [hin hi] at hl
      obtain ⟨mc, m', h1, h2, h3, _⟩ := at_ (i - base) (by omega)
      rw [show base + (i - base) = i from by omega, hm] at h2
      cases h2
      obtain ⟨es0, m1, rfl, rfl, hmm⟩ : ∃ es0 m1, mc = .row es0 z m1 ∧ es = es0.map (fun c => c.map (sh base)) ∧ (m = m1 ∨ m = false) := by
        rcases h3 with h3 | ⟨es', z', b', h3, h4⟩
        · cases mc <;> simp [shM] at h3
          obtain ⟨rfl, rfl, rfl⟩ := h3
          exact ⟨_, _, rfl, rfl, .inl rfl⟩
        · cases mc <;> simp [shM] at h3
          obtain ⟨rfl, rfl, rfl⟩ := h3
          cases h4
          exact ⟨_, _, rfl, rfl, .inr rfl⟩
      have hr := hIc.row _ l es0 z m1 hl h1
      have hmt : m = true → m1 = true := fun h => by rcases hmm with h' | h' <;> simp_all
      have hokr : ∀ c ∈ es0, ∀ p ∈ c, (selfP p = true ∨ ∀ b, Sc b → S' b) ∧ okIds p = true := by
        intro c hc p hp
        have g1 := List.all_eq_true.1 hok _ (List.mem_of_getElem? h1)
        simp only [okMs, List.all_eq_true] at g1
        refine ⟨hcond.imp (fun h => ?_) id, g1 c hc p hp⟩
        have g2 := List.all_eq_true.1 h.1 _ (List.mem_of_getElem? h1)
        simp only [selfM, List.all_eq_true] at g2
        exact g2 c hc p hp
      obtain ⟨cur, e, fz, g1, g2, g3⟩ := hr.blk
      have hlv := hIc.live _ l hl
      refine ⟨hr.zs, by simpa using hr.top, ?_, sh_VE hk hokr hr.cells, ⟨cur, e, fz, g1, g2, fun h => g3 (hmt h)⟩, ?_, ?_⟩
      · intro c hc
        obtain ⟨c0, hc0, rfl⟩ := List.mem_map.1 hc
        simpa using hr.wid c0 hc0
      · intro hmtrue
        refine free hl h1 rfl (hr.own (hmt hmtrue)) ?_
        intro es' z' hh
        rw [show base + (i - base) = i from by omega, hm] at hh
        cases hh; cases hmtrue
      · intro hmf
        subst hmf
        exact .inr ⟨hlv.1, hlv.2.1, .inr ⟨i - base, l, _, z, hl, rfl, by rw [show base + (i - base) = i from by omega]; exact hm⟩⟩
    · rw [hout hi] at hl
      have hr := hI1.row i l es z m hl hm
      have hmono : ∀ id l, φ id = some l → φ' id = some l := by
        intro id l' h
        by_cases hid : base ≤ id ∧ id < base + Hc.length
        · obtain ⟨_, _, _, _, _, h4⟩ := at_ (id - base) (by omega)
          rw [show base + (id - base) = id from by omega, h] at h4; cases h4
        · rw [hout hid]; exact h
      exact ⟨hr.zs, hr.top, hr.wid, VE.mono hmono (fun b hb => ⟨hb, rfl⟩) _ _ _ rfl hr.cells, hr.blk, hr.own, hr.frz⟩
  · intro i l es hl hm
    by_cases hi : base ≤ i ∧ i < base + Hc.length
    · rw [hin hi] at hl
      obtain ⟨mc, m', h1, h2, h3, _⟩ := at_ (i - base) (by omega)
      rw [show base + (i - base) = i from by omega, hm] at h2
      cases h2
      obtain ⟨es0, rfl, rfl⟩ : ∃ es0, mc = .map es0 ∧ es = es0.map (fun x => (sh base x.1, sh base x.2)) := by
        rcases h3 with h3 | ⟨es', z', b', h3, h4⟩
        · cases mc <;> simp [shM] at h3
          exact ⟨_, rfl, h3⟩
        · cases h4
      obtain ⟨g1, ents, clock, g2, g3⟩ := hIc.map _ l es0 hl h1
      refine ⟨free hl h1 rfl g1 ?_, ents, clock, g2, sh_VM hk (fun x hx => ?_) g3⟩
      · intro es' z' hh
        rw [show base + (i - base) = i from by omega, hm] at hh
        cases hh
      · have g4 := List.all_eq_true.1 hok _ (List.mem_of_getElem? h1)
        simp only [okMs, List.all_eq_true, Bool.and_eq_true] at g4
        have g5 : (selfP x.1 = true ∧ selfP x.2 = true) ∨ ∀ b, Sc b → S' b := hcond.imp (fun h => by
          have g6 := List.all_eq_true.1 h.1 _ (List.mem_of_getElem? h1)
          simp only [selfM, List.all_eq_true, Bool.and_eq_true] at g6
          exact g6 x hx) id
        exact ⟨⟨g5.imp (·.1) id, (g4 x hx).1⟩, ⟨g5.imp (·.2) id, (g4 x hx).2⟩⟩
    · rw [hout hi] at hl
      obtain ⟨g1, ents, clock, g2, g3⟩ := hI1.map i l es hl hm
      have hmono : ∀ id l, φ id = some l → φ' id = some l := by
        intro id l' h
        by_cases hid : base ≤ id ∧ id < base + Hc.length
        · obtain ⟨_, _, _, _, _, h4⟩ := at_ (id - base) (by omega)
          rw [show base + (id - base) = id from by omega, h] at h4; cases h4
        · rw [hout hid]; exact h
      exact ⟨g1, ents, clock, g2, VM.mono hmono (fun b hb => ⟨hb, rfl⟩) _ _ g3⟩
  · intro i i' l l' m m' hne hl hl' hm hm' ha ha'
    by_cases hi : base ≤ i ∧ i < base + Hc.length <;> by_cases hi' : base ≤ i' ∧ i' < base + Hc.length
    · rw [hin hi] at hl
      rw [hin hi'] at hl'
      obtain ⟨mc, m2, h1, h2, h3, _⟩ := at_ (i - base) (by omega)
      obtain ⟨mc', m2', h1', h2', h3', _⟩ := at_ (i' - base) (by omega)
      rw [show base + (i - base) = i from by omega, hm] at h2
      rw [show base + (i' - base) = i' from by omega, hm'] at h2'
      cases h2; cases h2'
      exact hIc.apart _ _ l l' mc mc' (by omega) hl hl' h1 h1' (by rw [← alive_of h3]; exact ha) (by rw [← alive_of h3']; exact ha')
    · rw [hin hi] at hl
      rw [hout hi'] at hl'
      have := hIc.live _ l hl
      have := hI.live _ l' hl'
      omega
    · rw [hout hi] at hl
      rw [hin hi'] at hl'
      have := hI.live _ l hl
      have := hIc.live _ l' hl'
      omega
    · rw [hout hi] at hl
      rw [hout hi'] at hl'
      exact hI1.apart i i' l l' m m' hne hl hl' hm hm' ha ha'
  · intro id l _ h
    by_cases hid : base ≤ id ∧ id < base + Hc.length
    · obtain ⟨_, _, _, _, _, h4⟩ := at_ (id - base) (by omega)
      rw [show base + (id - base) = id from by omega, h] at h4; cases h4
    · rw [hout hid]; exact h
  · exact sh_VL hk (fun p hp => ⟨hcond.imp (fun h => h.2 p hp) id, hokp p hp⟩) hps

/-- What stands of the new rows in the heap that the relation speaks of. -/
def NewAt (Hs : List Mem) (φ : Phi) (base : Nat) (ms : List Mem) : Prop := ∀ (j : Nat) (m : Mem), ms[j]? = some m → ∃ m', Hs[base + j]? = some m' ∧ FrzM m m' ∧ φ (base + j) = none

theorem enterT_get : ∀ (args : List PV) (i t : Nat) (p : PV), get (enterT i args) t = some p → i ≤ t ∧ args[t - i]? = some p
  | [], i, t, p, h => by simp [enterT, get_nil] at h
  | v :: r, i, t, p, h => by
    simp only [enterT] at h
    rw [get_cons] at h
    split at h
    · rename_i e; subst e; cases h; simp
    · obtain ⟨h1, h2⟩ := enterT_get r (i + 1) t p h
      refine ⟨by omega, ?_⟩
      rw [show t - i = (t - (i + 1)) + 1 from by omega]
      simpa using h2
theorem get_enterT : ∀ (vs : List PV) (k i : Nat), get (enterT k vs) (k + i) = vs[i]?
  | [], k, i => by simp [enterT, get_nil]
  | v :: r, k, i => by
    simp only [enterT]
    rw [get_cons]
    cases i with
    | zero => simp
    | succ i =>
      rw [if_neg (by omega), show k + (i + 1) = k + 1 + i from by omega, get_enterT r (k + 1) i]
      simp
theorem enterT_snd : ∀ (vs : List PV) (k : Nat), (enterT k vs).map (·.2) = vs
  | [], _ => rfl
  | v :: r, k => by simp only [enterT, List.map_cons, enterT_snd r (k + 1)]
theorem VL_of_get {φ : Phi} : ∀ {l : List PV} {vs : List Value}, l.length = vs.length → (∀ (i : Nat) (p : PV), l[i]? = some p → VRel φ w S p (vs.getD i undef)) → VL φ w S l vs
  | [], vs, h, _ => by
    have : vs = [] := by cases vs <;> simp_all
    simp only [VL]; exact this
  | p :: l, [], h, _ => by simp at h
  | p :: l, v :: vs, h, hg => by
    simp only [VL]
    exact ⟨v, vs, rfl, by simpa using hg 0 p rfl, VL_of_get (by simpa using h) fun i q hq => by simpa using hg (i + 1) q (by simpa using hq)⟩
theorem compact_spec {tm : List (Nat × PV)} {H : List Mem} {st : St} (hc : compact tm H = some st) : ∃ ids, st.tm = tm.map fun x => (x.1, ren ids x.2) := by
  unfold compact at hc
  simp only [] at hc
  split at hc
  · generalize closeIds H 3 ((tm.flatMap fun x => idsOf x.2).foldl addNew []) = ids at hc
    cases ho : omap (fun i => (H[i]?).bind fun m => if okM m && (idsM m).all ids.contains then some (renM ids m) else none) ids with
    | none => rw [ho] at hc; cases hc
    | some H' =>
      rw [ho] at hc
      simp only [Option.map_some, Option.some.injEq] at hc
      subst hc
      exact ⟨ids, rfl⟩
  · cases hc
theorem compact_list {φ : Phi} {vs : List PV} {us : List Value} {H : List Mem} {st : St} (hc : compact (enterT 0 vs) H = some st) (hI : Inv φ H w S B) (hv : VL φ w S vs us) : ∃ φ', Inv φ' st.hp w S B ∧ VL φ' w S (st.tm.map (·.2)) us := by
  obtain ⟨φ', h1, h2⟩ := compact_sound (N := us.length) (a := { tmps := us.toArray, defers := [] }) hc hI ⟨by simp, rfl, fun i p hp => by
    obtain ⟨_, h5⟩ := enterT_get vs 0 i p hp
    simp only [Nat.sub_zero] at h5
    obtain ⟨u, h6, h7⟩ := VL.get hv h5
    have hi := (List.getElem?_eq_some_iff.1 h6).1
    refine ⟨hi, ?_⟩
    have : us.toArray.getD i undef = u := by simp [Array.getD_eq_getD_getElem?, h6]
    rw [this]; exact h7⟩
  obtain ⟨ids, hids⟩ := compact_spec hc
  refine ⟨φ', h1, VL_of_get ?_ ?_⟩
  · rw [hids, VL.length hv]
    have := congrArg List.length (enterT_snd vs 0)
    simpa using this
  · intro i p hp
    have hg : get st.tm i = some p := by
      rw [hids, get_map]
      have h3 := get_enterT vs 0 i
      rw [Nat.zero_add] at h3
      rw [h3]
      have h4 : (st.tm.map (·.2))[i]? = (vs[i]?).map (ren ids) := by
        rw [hids, List.map_map]
        have : (enterT 0 vs).map ((fun x => x.2) ∘ fun x => (x.1, ren ids x.2)) = vs.map (ren ids) := by
          rw [← enterT_snd vs 0, List.map_map]
          simp [enterT_snd]
        rw [this, List.getElem?_map]
      rw [← h4]; exact hp
    have := (h2.2.2 i p hg).2
    simpa [Array.getD_eq_getD_getElem?] using this
theorem parts_rel {φ : Phi} {v : PV} {u : Value} (hv : VRel φ w S v u) : ∃ us, VL φ w S (parts1 v) us ∧ ∀ (φ' : Phi) (w' : World) (S' : Nat → Prop) (ps : List PV), VL φ' w' S' ps us → VRel φ' w' S' (rejoin v ps) u := by
  have one : VL φ w S [v] [u] := by simp only [VL]; exact ⟨u, [], rfl, hv, rfl⟩
  have back : ∀ (φ' : Phi) (w' : World) (S' : Nat → Prop) (ps : List PV), VL φ' w' S' ps [u] → ∃ q, ps = [q] ∧ VRel φ' w' S' q u := by
    intro φ' w' S' ps h
    cases ps with
    | nil => simp [VL] at h
    | cons q r =>
      simp only [VL] at h
      obtain ⟨v1, r1, h1, h2, h3⟩ := h
      cases h1
      cases r with
      | nil => exact ⟨q, rfl, h2⟩
      | cons x y => simp [VL] at h3
  cases v
  case tup vs =>
    simp only [VRel] at hv
    obtain ⟨arr, rfl, h2⟩ := hv
    refine ⟨arr.toList, h2, fun φ' w' S' ps hps => ?_⟩
    simp only [rejoin, VRel]
    exact ⟨arr, rfl, hps⟩
  all_goals exact ⟨[u], one, fun φ' w' S' ps hps => by
    obtain ⟨q, rfl, hq⟩ := back φ' w' S' ps hps
    exact hq⟩
end
end Go.Am
