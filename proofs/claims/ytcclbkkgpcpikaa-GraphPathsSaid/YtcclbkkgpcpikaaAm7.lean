/-
  Values that are built; new own rows.
-/
import Derived.Test.YtcclbkkgpcpikaaAm6
set_option linter.unusedSimpArgs false
set_option linter.unusedVariables false
namespace Go.Am
open Go.RowKit

section
variable {P : Program} {w : World} {φ : Phi} {S : Nat → Prop} {B : Nat} {H : List Mem}

theorem splice_length {α : Type} (l : List α) (off : Nat) (cs : List α) (h : off + cs.length ≤ l.length) : (splice l off cs).length = l.length := by
  simp [splice]; omega
theorem splice_nil {α : Type} (l : List α) (off : Nat) : splice l off [] = l := by simp [splice]
theorem splice_cons {α : Type} (l : List α) (off : Nat) (c : α) (cs : List α) (h : off < l.length) : splice l off (c :: cs) = splice (l.set off c) (off + 1) cs := by
  unfold splice
  rw [List.take_succ_eq_append_getElem (by simpa using h)]
  simp only [List.getElem_set_self, List.take_set_of_le (Nat.le_refl off), List.append_assoc, List.singleton_append, List.cons_append, List.nil_append]
  rw [List.drop_set_of_lt (by omega)]
  simp only [List.length_cons]
  rw [show off + 1 + cs.length = off + (cs.length + 1) from by omega]

/-- 'fill''s step is a splice. -/
theorem fold_splice : ∀ (vs : List Value) (off k : Nat) (cs : Array Value), off + k + vs.length ≤ cs.size →
    ((vs.zipIdx k).foldl (fun (cs : Array Value) (x : Value × Nat) => cs.setIfInBounds (off + x.2) x.1) cs).toList = splice cs.toList (off + k) vs
  | [], off, k, cs, _ => by simp [splice_nil]
  | v :: vs, off, k, cs, h => by
    simp only [List.length_cons] at h
    simp only [List.zipIdx_cons, List.foldl_cons]
    rw [fold_splice vs off (k + 1) _ (by simp; omega)]
    rw [splice_cons _ _ _ _ (by simp; omega)]
    simp [Nat.add_assoc]

theorem fold_splice' (v : Value) (off : Nat) (cs : Array Value) (h : off + v.cells.size ≤ cs.size) :
    (v.cells.zipIdx.foldl (fun cs (c, j) => cs.setIfInBounds (off + j) c) cs).toList = splice cs.toList off v.cells.toList := by
  have := fold_splice v.cells.toList off 0 cs (by simpa using h)
  rw [← Array.foldl_toList]
  simpa using this

theorem VL.splice {l : List PV} {vs : List Value} {cs : List PV} {us : List Value} {off : Nat} (h : VL φ w S l vs) (h' : VL φ w S cs us) : VL φ w S (splice l off cs) (splice vs off us) := by
  unfold Am.splice
  rw [VL.length h']
  exact VL.append (VL.take off h) (VL.append h' (VL.drop _ h))
theorem splice_mem {α : Type} {l : List α} {off : Nat} {cs : List α} {x : α} (h : x ∈ splice l off cs) : x ∈ l ∨ x ∈ cs := by
  unfold splice at h
  simp only [List.mem_append] at h
  rcases h with h | h | h
  · exact .inl (List.mem_of_mem_take h)
  · exact .inr h
  · exact .inl (List.mem_of_mem_drop h)

theorem cells_sound {p : PV} {v : Value} (h : VRel φ w S p v) (ht : ∀ vs, p ≠ .tup vs) : VL φ w S (cellsOf p) v.cells.toList ∧ (∀ c ∈ cellsOf p, oneP c = true) := by
  have one : ∀ {q : PV} {u : Value}, VRel φ w S q u → oneP q = true → u.cells = #[u] → VL φ w S [q] u.cells.toList ∧ (∀ c ∈ [q], oneP c = true) := by
    intro q u hq h1 hc
    rw [hc]
    exact ⟨⟨u, [], rfl, hq, by simp only [VL]⟩, by simpa using h1⟩
  cases p with
  | agg cs =>
    simp only [VRel] at h
    obtain ⟨arr, rfl, ho, hv⟩ := h
    exact ⟨hv, ho⟩
  | tup vs => exact absurd rfl (ht vs)
  | _ =>
    refine one h rfl ?_
    have := oneP_val rfl h
    cases v <;> first | rfl | (simp [Value.oneCell'] at this)

/-- Parts and their values. -/
def PRel (φ : Phi) (w : World) (S : Nat → Prop) : List (Nat × PV) → List (Nat × Value) → Prop
  | [], l => l = []
  | (i, p) :: r, l => ∃ v l', l = (i, v) :: l' ∧ VL φ w S (cellsOf p) v.cells.toList ∧ (∀ c ∈ cellsOf p, oneP c = true) ∧ PRel φ w S r l'

theorem fillAgg_sound {place : Nat → Option (Nat × Nat)} : ∀ {parts : List (Nat × PV)} {ps : List (Nat × Value)} {cs cs' : List PV} {arr : Array Value}, fillAgg place cs parts = some cs' → PRel φ w S parts ps → VL φ w S cs arr.toList → (∀ c ∈ cs, oneP c = true) →
    ∃ arr', Instr.fill place arr ps = some arr' ∧ VL φ w S cs' arr'.toList ∧ (∀ c ∈ cs', oneP c = true)
  | [], ps, cs, cs', arr, h, hp, hv, h1 => by
    simp [fillAgg] at h; subst h
    simp only [PRel] at hp; subst hp
    exact ⟨arr, rfl, hv, h1⟩
  | (i, p) :: r, ps, cs, cs', arr, h, hp, hv, h1 => by
    obtain ⟨v, l', rfl, hc, ho, hr⟩ := hp
    simp only [fillAgg] at h
    cases hpl : place i with
    | none => simp [hpl] at h
    | some on =>
      obtain ⟨off, n⟩ := on
      simp only [hpl, Option.bind_some] at h
      obtain ⟨⟨hl, hle⟩, h⟩ := if_some h
      have hsz : v.cells.size = n := by have := VL.length hc; simpa [hl] using this
      have hasz : arr.size = cs.length := by have := VL.length hv; simpa using this
      have hfs := fold_splice' v off arr (by omega)
      obtain ⟨arr', h2, h3, h4⟩ := fillAgg_sound (arr := v.cells.zipIdx.foldl (fun cs (c, j) => cs.setIfInBounds (off + j) c) arr) h hr (by rw [hfs]; exact VL.splice hv hc)
        (fun c hc' => (splice_mem hc').elim (h1 c) (ho c))
      refine ⟨arr', ?_, h3, h4⟩
      simp only [Instr.fill, hpl]
      rw [if_neg (by simp [hsz]; omega)]
      exact h2

theorem flatten_set_splice {α : Type} {z : Nat} : ∀ (es : List (List α)) (i : Nat) (c : List α), (∀ x ∈ es, x.length = z) → c.length = z → i < es.length → (es.set i c).flatten = splice es.flatten (i * z) c
  | [], i, c, _, _, hi => by simp at hi
  | e :: es, 0, c, hz, hc, _ => by
    have he : e.length = z := hz e List.mem_cons_self
    simp [splice, hc, ← he]
  | e :: es, i + 1, c, hz, hc, hi => by
    have he : e.length = z := hz e List.mem_cons_self
    simp only [List.set_cons_succ, List.flatten_cons]
    rw [flatten_set_splice es i c (fun x hx => hz x (List.mem_cons_of_mem _ hx)) hc (by simpa using hi)]
    unfold splice
    have e1 : (i + 1) * z = e.length + i * z := by rw [Nat.add_mul, he]; omega
    rw [e1, List.take_length_add_append, show e.length + i * z + c.length = e.length + (i * z + c.length) from by omega, List.drop_length_add_append]
    simp

theorem flatten_len {α : Type} {z : Nat} : ∀ (es : List (List α)), (∀ x ∈ es, x.length = z) → es.flatten.length = es.length * z
  | [], _ => by simp
  | e :: es, hz => by
    simp only [List.flatten_cons, List.length_append, List.length_cons]
    rw [flatten_len es (fun x hx => hz x (List.mem_cons_of_mem _ hx)), hz e List.mem_cons_self, Nat.add_mul]; omega

theorem fillRow_sound {z : Nat} : ∀ {parts : List (Nat × PV)} {ps : List (Nat × Value)} {es es' : List (List PV)} {arr : Array Value}, fillRow z es parts = some es' → PRel φ w S parts ps → VL φ w S es.flatten arr.toList → (∀ c ∈ es.flatten, oneP c = true) → (∀ x ∈ es, x.length = z) →
    ∃ arr', Instr.fill (fun i => some (i * z, z)) arr ps = some arr' ∧ VL φ w S es'.flatten arr'.toList ∧ (∀ c ∈ es'.flatten, oneP c = true) ∧ (∀ x ∈ es', x.length = z) ∧ es'.length = es.length
  | [], ps, es, es', arr, h, hp, hv, h1, hz => by
    simp [fillRow] at h; subst h
    simp only [PRel] at hp; subst hp
    exact ⟨arr, rfl, hv, h1, hz, rfl⟩
  | (i, p) :: r, ps, es, es', arr, h, hp, hv, h1, hz => by
    obtain ⟨v, l', rfl, hc, ho, hr⟩ := hp
    simp only [fillRow] at h
    obtain ⟨⟨hl, hi⟩, h⟩ := if_some h
    have hsz : v.cells.size = z := by have := VL.length hc; simpa [hl] using this
    have hasz : arr.size = es.length * z := by have := VL.length hv; rw [flatten_len es hz] at this; simpa using this
    have hb : i * z + z ≤ es.length * z := by rw [← Nat.succ_mul]; exact Nat.mul_le_mul_right _ hi
    have hfs := fold_splice' v (i * z) arr (by omega)
    have hset := flatten_set_splice es i (cellsOf p) hz hl hi
    have hz' : ∀ x ∈ es.set i (cellsOf p), x.length = z := by
      intro x hx
      rcases List.mem_or_eq_of_mem_set hx with hx | rfl
      · exact hz x hx
      · exact hl
    obtain ⟨arr', h2, h3, h4, h5, h6⟩ := fillRow_sound (arr := v.cells.zipIdx.foldl (fun cs (c, j) => cs.setIfInBounds (i * z + j) c) arr) h hr
      (by rw [hfs, hset]; exact VL.splice hv hc) (by rw [hset]; exact fun c hc' => (splice_mem hc').elim (h1 c) (ho c)) hz'
    refine ⟨arr', ?_, h3, h4, h5, by rw [h6, List.length_set]⟩
    simp only [Instr.fill]
    rw [if_neg (by simp [hsz]; omega)]
    exact h2

theorem noTup_spec {v p : PV} (h : noTup v = some p) : p = v ∧ ∀ vs, p ≠ .tup vs := by
  cases v <;> simp [noTup] at h <;> subst h <;> exact ⟨rfl, by simp⟩
theorem bind_noTup {x : Option PV} {p : PV} (h : x.bind noTup = some p) : x = some p ∧ ∀ vs, p ≠ .tup vs := by
  cases x with
  | none => simp at h
  | some v => simp at h; obtain ⟨rfl, h2⟩ := noTup_spec h; exact ⟨rfl, h2⟩

theorem partsOf_sound {tm : List (Nat × PV)} {a : Act} {N : Nat} (ht : TRel φ w S N tm a) : ∀ {parts : List (Nat × Operand)} {ps : List (Nat × PV)}, omap (fun x : Nat × Operand => ((ev tm x.2).bind noTup).map fun v => (x.1, v)) parts = some ps →
    PRel φ w S ps (parts.map fun (i, x) => (i, a.eval x))
  | [], ps, h => by simp [omap_nil] at h; subst h; simp [PRel]
  | (i, x) :: parts, ps, h => by
    obtain ⟨b, s, h1, h2, rfl⟩ := omap_cons_some h
    cases he : (ev tm x).bind noTup with
    | none => simp [he] at h1
    | some v =>
      simp [he] at h1; subst h1
      obtain ⟨he', hn⟩ := bind_noTup he
      have := cells_sound (ev_sound ht he') hn
      exact ⟨a.eval x, _, rfl, this.1, this.2, partsOf_sound ht h2⟩

theorem toList_madeCells (z : Array Value) (n : Nat) : (madeCells z (n * z.size)).toList = (List.replicate n z.toList).flatten := by
  induction n with
  | zero => simp [madeCells]
  | succ n ih =>
    rw [List.replicate_succ, List.flatten_cons, ← ih]
    have e : (n + 1) * z.size = z.size + n * z.size := by rw [Nat.add_mul]; omega
    have hl : ∀ m, (madeCells z m).toList = (List.range m).map (z[· % z.size]!) := by intro m; simp [madeCells]
    rw [hl, hl, e, List.range_add, List.map_append, List.map_map]
    congr 1
    · apply List.ext_getElem
      · simp
      · intro i h1 h2
        have hi : i < z.size := by simpa using h2
        simp [Nat.mod_eq_of_lt hi, hi]
    · apply List.map_congr_left
      intro j _
      simp [Function.comp]

theorem run_places' : ∀ (fs : List Field) (ns : List Nat), omap (fun f : Field => tsize P f.type) fs = some ns →
    ∃ places : List (Nat × Nat), (fs.mapM fun f => (do pure (f.offset, ← sizeOf f.type) : Sem (Nat × Nat))).run P w = .ok places w ∧ ∀ i : Nat, places[i]? = (fs[i]?).bind fun f : Field => (tsize P f.type).map fun n => (f.offset, n)
  | [], ns, h => ⟨[], rfl, by simp⟩
  | f :: fs, ns, h => by
    obtain ⟨b, s, h1, h2, rfl⟩ := omap_cons_some h
    obtain ⟨pl, h3, h4⟩ := run_places' fs s h2
    refine ⟨(f.offset, b) :: pl, ?_, ?_⟩
    · rw [List.mapM_cons]
      simp only [Sem.run_bind, run_sizeOf' h1, Result.andThen_ok, Sem.run_pure, h3]
    · intro i
      cases i with
      | zero => simp [h1]
      | succ i => simp [h4]

theorem buildPV_sound {t : TypeId} {parts : List (Nat × PV)} {ps : Array (Nat × Value)} {p : PV} (h : buildPV P t parts = some p) (hp : PRel φ w S parts ps.toList) :
    ∃ u, (Instr.build t ps).run P w = .ok u w ∧ VRel φ w S p u := by
  unfold buildPV at h
  cases hz : zcells P t with
  | none => simp [hz] at h
  | some zero =>
    simp only [hz, Option.bind_some] at h
    obtain ⟨i, v, hi, hzi, hv, ho⟩ := zcells_sound (w := w) (φ := φ) (S := S) hz
    have hzr : (zeroValue t).run P w = .ok v w := by simp [zeroValue, typeInfo, hi, hzi]
    split at h
    · rename_i fs hu
      cases hf : fillAgg (fun i : Nat => (fs[i]?).bind fun f : Field => (tsize P f.type).map fun n => (f.offset, n)) zero parts with
      | none => simp [hf] at h
      | some cs =>
        simp only [hf, Option.bind_some] at h
        cases ho2 : omap (fun f : Field => tsize P f.type) fs.toList with
        | none => simp [ho2] at h
        | some ns =>
          simp only [ho2, Option.map_some, Option.some.injEq] at h
          subst h
          obtain ⟨pl, hpl, hpe⟩ := run_places' (P := P) (w := w) fs.toList ns ho2
          obtain ⟨arr, h1, h2, h3⟩ := fillAgg_sound hf hp hv ho
          have hfun : (fun i : Nat => (fs[i]?).bind fun f : Field => (tsize P f.type).map fun n => (f.offset, n)) = (pl.toArray[·]?) := by
            funext i
            simp [hpe]
          rw [hfun] at h1
          refine ⟨.agg arr, ?_, by simp only [VRel]; exact ⟨arr, rfl, h3, h2⟩⟩
          have hmm : (fs.mapM fun f => (do pure (f.offset, ← sizeOf f.type) : Sem (Nat × Nat))).run P w = .ok pl.toArray w := by
            rw [Array.mapM_eq_mapM_toList]
            simp only [Sem.run_map, hpl, Result.andThen_ok]
          simp only [Instr.build, Sem.run_bind, hzr, Result.andThen_ok, underlying_some hu, hmm, h1, Sem.run_pure]
    · rename_i n e hu
      cases hz2 : tsize P e with
      | none => simp [hz2] at h
      | some n =>
        simp only [hz2, Option.bind_some] at h
        cases hf : fillAgg (fun i => some (i * n, n)) zero parts with
        | none => simp [hf] at h
        | some cs =>
          simp only [hf, Option.map_some, Option.some.injEq] at h
          subst h
          obtain ⟨arr, h1, h2, h3⟩ := fillAgg_sound hf hp hv ho
          refine ⟨.agg arr, ?_, by simp only [VRel]; exact ⟨arr, rfl, h3, h2⟩⟩
          simp only [Instr.build, Sem.run_bind, hzr, Result.andThen_ok, underlying_some hu, run_sizeOf' hz2, h1, Sem.run_pure]
    · cases h

theorem telem_spec {t e : TypeId} (h : telem P t = some e) : P.underlying t = some (.slice e) := by
  unfold telem at h
  split at h
  · cases h; assumption
  · cases h

/-- What 'buildSlice' lays. -/
theorem buildSliceM_sound {t : TypeId} {n : Nat} {parts : List (Nat × PV)} {ps : Array (Nat × Value)} {m : Mem} (h : buildSliceM P t n parts = some m) (hp : PRel φ w S parts ps.toList) :
    ∃ es z arr e, m = .row es z true ∧ (Instr.buildSlice t n ps).run P w = .ok (.slice (some ⟨w.heap.size, 0, none⟩) n n) (w.alloc (.cells arr e)) ∧ es.length = n ∧ VL φ w S es.flatten arr.toList ∧ (∀ c ∈ es.flatten, oneP c = true) ∧ (∀ x ∈ es, x.length = z) := by
  unfold buildSliceM at h
  cases he : telem P t with
  | none => simp [he] at h
  | some e =>
    have hu := telem_spec he
    simp only [he, Option.bind_some] at h
    cases hz : tsize P e with
    | none => simp [hz] at h
    | some z =>
      simp only [hz, Option.bind_some] at h
      cases hzc : zcells P e with
      | none => simp [hzc] at h
      | some zero =>
        simp only [hzc, Option.bind_some] at h
        obtain ⟨⟨hn0', hz0, hzl, hmax⟩, h⟩ := if_some h
        by_cases hnz : n = 0
        · subst hnz
          have hpe : parts = [] := hn0'.elim (fun h => absurd h (Nat.lt_irrefl 0)) id
          subst hpe
          simp only [List.replicate_zero, fillRow, Option.map_some, Option.some.injEq] at h
          subst h
          have hps : ps = #[] := by
            apply Array.ext'
            cases hpl : ps.toList with
            | nil => rfl
            | cons x r => rw [hpl] at hp; simp [PRel] at hp
          subst hps
          refine ⟨[], z, #[], e, rfl, ?_, rfl, by simp [VL], by simp, by simp⟩
          unfold Instr.buildSlice
          simp [underlying_some hu, run_sizeOf' hz, Instr.fill, newRow, run_newObj]
          rw [show Array.range 0 = #[] from by apply Array.ext'; simp [Array.toList_range], Array.map_empty]
        have hn0 : 0 < n := by omega
        cases hf : fillRow z (List.replicate n zero) parts with
        | none => simp [hf] at h
        | some es =>
          simp only [hf, Option.map_some, Option.some.injEq] at h
          subst h
          obtain ⟨i, v, hi, hzi, hv, ho⟩ := zcells_sound (w := w) (φ := φ) (S := S) hzc
          have hzr : (zeroValue e).run P w = .ok v w := by simp [zeroValue, typeInfo, hi, hzi]
          have hvl : v.cells.size = z := by have := VL.length hv; simpa [hzl] using this
          have hrep : ∀ k, VL φ w S (List.replicate k zero).flatten (List.replicate k v.cells.toList).flatten := by
            intro k
            induction k with
            | zero => simp [VL]
            | succ k ih => simp only [List.replicate_succ, List.flatten_cons]; exact VL.append hv ih
          have hmade : (madeCells v.cells (n * z)).toList = (List.replicate n v.cells.toList).flatten := by rw [← hvl]; exact toList_madeCells _ _
          obtain ⟨arr, h1, h2, h3, h4, h5⟩ := fillRow_sound (arr := madeCells v.cells (n * z)) hf hp (by rw [hmade]; exact hrep n)
            (by intro c hc; simp only [List.mem_flatten, List.mem_replicate] at hc; obtain ⟨l, ⟨_, rfl⟩, hc⟩ := hc; exact ho c hc)
            (by intro x hx; rw [(List.mem_replicate.1 hx).2]; exact hzl)
          refine ⟨es, z, arr, e, rfl, ?_, by simpa using h5, h2, h3, h4⟩
          have hne : ¬ n * z = 0 := by
            intro hh; rcases Nat.mul_eq_zero.1 hh with h | h <;> omega
          have hle : ¬ n * z > 2 ^ 24 := by have : (2:Nat)^24 = 16777216 := by decide
                                            omega
          unfold Instr.buildSlice
          simp only [Sem.run_bind, underlying_some hu, Result.andThen_ok, run_sizeOf' hz, if_neg hle, if_neg hne, Sem.run_pure, hzr]
          unfold madeCells at h1
          simp only [h1, newRow, Sem.run_bind, run_newObj, Result.andThen_ok, Sem.run_pure]
          rfl

end
end Go.Am
