/-
  The operations that read memory.
-/
import Derived.Test.YtcclbkkgpcpikaaAm3
set_option linter.unusedSimpArgs false
set_option linter.unusedVariables false
namespace Go.Am
open Go.RowKit

section
variable {w : World} {S : Nat → Prop}
mutual
theorem VRel.toI : ∀ (p : PV) (v : Value), VRel (fun _ => none) w S p v → IRel w S p v
  | .bool _, _, h | .int _ _, _, h | .str _, _, h | .nilp, _, h | .nils, _, h | .nilf, _, h | .nilm, _, h => by simpa only [VRel, IRel] using h
  | .ptr _ _ _, _, h => by simp only [VRel] at h; obtain ⟨l, h, _⟩ := h; cases h
  | .ref _ _ _ _, _, h => by simp only [VRel] at h; obtain ⟨l, a, c, h, _⟩ := h; cases h
  | .map _, _, h => by simp only [VRel] at h; obtain ⟨l, h, _⟩ := h; cases h
  | .lst es, v, h => by simpa only [VRel] using h
  | .box cs r, v, h => by simpa only [VRel] using h
  | .func f a c, v, h => by
    simp only [VRel, IRel] at h ⊢
    obtain ⟨fs, cs, h1, h2, h3⟩ := h
    exact ⟨fs, cs, h1, VL.toI a _ h2, VL.toI c _ h3⟩
  | .agg cs, v, h => by
    simp only [VRel, IRel] at h ⊢
    obtain ⟨arr, h1, h0, h2⟩ := h
    exact ⟨arr, h1, h0, VL.toI cs _ h2⟩
  | .tup cs, v, h => by
    simp only [VRel, IRel] at h ⊢
    obtain ⟨arr, h1, h2⟩ := h
    exact ⟨arr, h1, VL.toI cs _ h2⟩
theorem VL.toI : ∀ (l : List PV) (vs : List Value), VL (fun _ => none) w S l vs → LRel w S l vs
  | [], _, h => by simpa only [VL, LRel] using h
  | p :: ps, vs, h => by
    simp only [VL, LRel] at h ⊢
    obtain ⟨v, r, h1, h2, h3⟩ := h
    exact ⟨v, r, h1, VRel.toI p v h2, VL.toI ps r h3⟩
end
theorem VC.toI : ∀ (l : List PV) (b o : Nat), VC (fun _ => none) w S l b o → CsRel w S l b o
  | [], _, _, _ => by simp only [CsRel]
  | p :: ps, b, o, h => by
    obtain ⟨⟨h1, v, hv, hr⟩, ht⟩ := h
    simp only [CsRel]
    exact ⟨⟨h1, v, hv, VRel.toI p v hr⟩, VC.toI ps b (o + 1) ht⟩
theorem VE.toI : ∀ (l : List (List PV)) (b o : Nat), VE (fun _ => none) w S l b o → EsRel w S l b o
  | [], _, _, _ => by simp only [EsRel]
  | c :: cs, b, o, h => by
    simp only [EsRel]
    exact ⟨VC.toI c b o h.1, VE.toI cs b _ h.2⟩
theorem EsRel.get {l : List (List PV)} {b o z i : Nat} {c : List PV} (hz : ∀ c ∈ l, c.length = z) (h : EsRel w S l b o) (hi : l[i]? = some c) : CsRel w S c b (o + i * z) :=
  VC.toI _ _ _ (VE.get hz (EsRel.toV (φ := fun _ => none) _ _ _ h) hi)
theorem EsRel.drop {l : List (List PV)} {b o z : Nat} (n : Nat) (hz : ∀ c ∈ l, c.length = z) (hn : n ≤ l.length) (h : EsRel w S l b o) : EsRel w S (l.drop n) b (o + n * z) := by
  have h' := EsRel.toV (φ := fun _ => none) _ _ _ h
  rw [← List.take_append_drop n l] at h'
  have := VE.right (z := z) (fun c hc => hz c (List.mem_of_mem_take hc)) h'
  rw [List.length_take, Nat.min_eq_left hn] at this
  exact VE.toI _ _ _ this
theorem EsRel.take {l : List (List PV)} {b o : Nat} (n : Nat) (h : EsRel w S l b o) : EsRel w S (l.take n) b o := by
  have h' := EsRel.toV (φ := fun _ => none) _ _ _ h
  rw [← List.take_append_drop n l] at h'
  exact VE.toI _ _ _ (VE.left h')
end

section
variable {P : Program} {w : World} {φ : Phi} {S : Nat → Prop} {B : Nat} {H : List Mem}

theorem VE.take {l : List (List PV)} {b o : Nat} (n : Nat) (h : VE φ w S l b o) : VE φ w S (l.take n) b o := by
  rw [← List.take_append_drop n l] at h; exact VE.left h
theorem VE.drop {l : List (List PV)} {b o z : Nat} (n : Nat) (hz : ∀ c ∈ l, c.length = z) (hn : n ≤ l.length) (h : VE φ w S l b o) : VE φ w S (l.drop n) b (o + n * z) := by
  rw [← List.take_append_drop n l] at h
  have := VE.right (z := z) (fun c hc => hz c (List.mem_of_mem_take hc)) h
  rwa [List.length_take, Nat.min_eq_left hn] at this

theorem VC.take {l : List PV} {b o : Nat} (n : Nat) (h : VC φ w S l b o) : VC φ w S (l.take n) b o := by
  rw [← List.take_append_drop n l] at h; exact VC.left h
theorem VC.drop {l : List PV} {b o : Nat} (n : Nat) (hn : n ≤ l.length) (h : VC φ w S l b o) : VC φ w S (l.drop n) b (o + n) := by
  rw [← List.take_append_drop n l] at h
  have := VC.right h
  rwa [List.length_take, Nat.min_eq_left hn] at this

/-- A part of a struct or an array that is a value. -/
theorem partOf_val {t : TypeId} {cs : List PV} {off : Nat} {p : PV} {arr : Array Value} (h : partOf P t cs off = some p) (ho : ∀ c ∈ cs, oneP c = true) (hv : VL φ w S cs arr.toList) :
    ∃ u, (part t arr off).run P w = .ok u w ∧ VRel φ w S p u := by
  unfold partOf at h
  split at h
  · rename_i hg
    cases hn : tsize P t with
    | none => simp [hn] at h
    | some n =>
      simp only [hn, Option.bind_some] at h
      obtain ⟨hle, h2⟩ := if_some h
      cases h2
      refine ⟨.agg (arr.extract off (off + n)), by simp [part, run_isAgg hg, run_sizeOf' hn], ?_⟩
      simp only [VRel]
      refine ⟨_, rfl, fun c hc => ho c (List.mem_of_mem_drop (List.mem_of_mem_take hc)), ?_⟩
      rw [Array.toList_extract]
      have : (arr.toList.take (off + n)).drop off = (arr.toList.drop off).take n := by rw [List.drop_take]; congr 1; omega
      simpa [List.extract_eq_take_drop] using VL.take n (VL.drop off hv)
  · rename_i hg
    obtain ⟨v, h1, h2⟩ := VL.get hv h
    exact ⟨v, by simp [part, run_isAgg hg]; simp at h1; simp [h1], h2⟩
  · simp at h

/-- A variable that lies in memory, read. -/
theorem partOf_load {t : TypeId} {cs : List PV} {r b o : Nat} {p : PV} (h : partOf P t cs r = some p) (hc : VC φ w S cs b o) :
    ∃ u, (loadVar t ⟨b, o + r, none⟩).run P w = .ok u w ∧ VRel φ w S p u := by
  unfold partOf at h
  split at h
  · rename_i hg
    cases hn : tsize P t with
    | none => simp [hn] at h
    | some n =>
      simp only [hn, Option.bind_some] at h
      obtain ⟨hle, h2⟩ := if_some h
      cases h2
      obtain ⟨vs, h1, h3, h4⟩ := VC.vals (VC.take n (VC.drop r (by omega) hc))
      have hlen : vs.length = n := by rw [VL.length h1, List.length_take, List.length_drop]; omega
      refine ⟨.agg vs.toArray, ?_, ?_⟩
      · have := run_loadCells_list (P := P) w ⟨b, o + r, none⟩ vs (fun j v hj => by rw [Addr.add_lit]; exact h4 j v hj)
        rw [hlen] at this
        simp [loadVar, run_isAgg hg, run_sizeOf' hn, this]
      · simp only [VRel]; exact ⟨_, rfl, h3, h1⟩
  · rename_i hg
    obtain ⟨_, v, h1, h2⟩ := VC.get hc h
    exact ⟨v, by simp [loadVar, run_isAgg hg, run_load, h1], h2⟩
  · simp at h

theorem loadPV_sound {t : TypeId} {x p : PV} {a : Value} (hI : Inv φ H w S B) (h : loadPV P H t x = some p) (hx : VRel φ w S x a) : ∃ u, (Instr.loadAt t a).run P w = .ok u w ∧ VRel φ w S p u := by
  unfold loadPV at h
  split at h
  · rename_i id i r
    split at h
    · rename_i es z m hm
      cases hc : es[i]? with
      | none => simp [hc] at h
      | some c =>
        simp only [hc, Option.bind_some] at h
        simp only [VRel] at hx
        obtain ⟨l, hl, rfl⟩ := hx
        have hr := hI.row id l es z m hl hm
        have := VE.get hr.wid hr.cells hc
        rw [← hr.zs] at this
        obtain ⟨u, h1, h2⟩ := partOf_load (P := P) (t := t) h this
        exact ⟨u, by simpa [Instr.loadAt, Instr.sureAddr] using h1, h2⟩
    · simp at h
  · rename_i c r
    simp only [VRel, IRel] at hx
    obtain ⟨b, o, rfl, hb, hc⟩ := hx
    obtain ⟨u, h1, h2⟩ := partOf_load (P := P) (t := t) h (CsRel.toV (φ := φ) _ _ _ hc)
    exact ⟨u, by simpa [Instr.loadAt, Instr.sureAddr] using h1, h2⟩
  · simp at h

theorem underlying_some {t : TypeId} {d : TypeDesc} (h : P.underlying t = some d) : (underlying t).run P w = .ok d w := run_underlying h w

theorem fieldAddrPV_sound {s : TypeId} {x p : PV} {f : Nat} {a : Value} (h : fieldAddrPV P s x f = some p) (hx : VRel φ w S x a) : ∃ u, (Instr.fieldAt s a f).run P w = .ok u w ∧ VRel φ w S p u := by
  unfold fieldAddrPV at h
  cases hf : fieldAt P s f with
  | none => simp [hf] at h
  | some of =>
    obtain ⟨off, ft⟩ := of
    simp only [hf, Option.bind_some] at h
    unfold fieldAt at hf
    split at hf
    · rename_i fs hu
      cases hx2 : fs[f]? with
      | none => simp [hx2] at hf
      | some fd =>
        simp [hx2] at hf
        obtain ⟨rfl, rfl⟩ := hf
        split at h
        · simp at h
        · rename_i n hn0 hn
          have hplace : ∀ b o, (fieldPlace ⟨b, o, none⟩ fd).run P w = .ok ⟨b, o + fd.offset, none⟩ w := by
            intro b o
            have hn1 : n ≠ 0 := by rintro rfl; exact hn0 rfl
            simp [fieldPlace, run_sizeOf' hn, hn1, Addr.add_lit]
          split at h
          · rename_i id i r
            cases h
            simp only [VRel] at hx ⊢
            obtain ⟨l, hl, rfl⟩ := hx
            exact ⟨_, by simp [Instr.fieldAt, underlying_some hu, hx2, Instr.sureAddr, hplace] <;> rfl, l, hl, by simp [Nat.add_assoc]⟩
          · rename_i cs r
            cases h
            simp only [VRel, IRel] at hx ⊢
            obtain ⟨b, o, rfl, hb, hc⟩ := hx
            exact ⟨_, by simp [Instr.fieldAt, underlying_some hu, hx2, Instr.sureAddr, hplace] <;> rfl, b, o, by simp [Nat.add_assoc], hb, hc⟩
          · simp at h
        · simp at h
    · simp at hf

theorem fieldPV_sound {s : TypeId} {x p : PV} {f : Nat} {a : Value} (h : fieldPV P s x f = some p) (hx : VRel φ w S x a) : ∃ u, (Instr.field s a f).run P w = .ok u w ∧ VRel φ w S p u := by
  unfold fieldPV at h
  cases hf : fieldAt P s f with
  | none => simp [hf] at h
  | some of =>
    obtain ⟨off, ft⟩ := of
    simp only [hf, Option.bind_some] at h
    unfold fieldAt at hf
    split at hf
    · rename_i fs hu
      cases hx2 : fs[f]? with
      | none => simp [hx2] at hf
      | some fd =>
        simp [hx2] at hf
        obtain ⟨rfl, rfl⟩ := hf
        split at h
        · rename_i cs
          simp only [VRel] at hx
          obtain ⟨arr, rfl, ho, hv⟩ := hx
          obtain ⟨u, h1, h2⟩ := partOf_val h ho hv
          exact ⟨u, by simp [Instr.field, underlying_some hu, hx2, asAgg, h1], h2⟩
        · simp at h
    · simp at hf

theorem indexAddrPV_sound {t : TypeId} {x ix p : PV} {a j : Value} (hI : Inv φ H w S B) (h : indexAddrPV P H t x ix = some p) (hx : VRel φ w S x a) (hj : VRel φ w S ix j) :
    ∃ u, (Instr.indexAt t a j).run P w = .ok u w ∧ VRel φ w S p u := by
  unfold indexAddrPV at h
  split at h
  · rename_i k j'
    simp only [VRel] at hj; subst hj
    split at h
    · rename_i e es hu
      cases hz : tsize P e with
      | none => simp [hz] at h
      | some z =>
        simp only [hz, Option.bind_some] at h
        obtain ⟨hb, h⟩ := if_some h
        cases hc : es[j'.toNat]? with
        | none => simp [hc] at h
        | some c =>
          simp only [hc, Option.bind_some] at h
          obtain ⟨hcl, h⟩ := if_some h
          cases h
          simp only [VRel, IRel] at hx ⊢
          obtain ⟨ad, cp, rfl, hle, hx⟩ := hx
          rcases hx with rfl | ⟨b, o, z', rfl, hS, hw, he⟩
          · simp at hb; omega
          · have hzz : z' = z := by rw [← hw c (List.mem_of_getElem? hc)]; exact hcl
            subst hzz
            refine ⟨.pointer (some ⟨b, o + j'.toNat * z', none⟩), ?_, b, o + j'.toNat * z', by simp, hS, EsRel.get hw he hc⟩
            simp [Instr.indexAt, asIntOf, underlying_some hu, hb, run_sizeOf' hz, Addr.add_lit]
    · rename_i e id i n room hu
      cases hz : tsize P e with
      | none => simp [hz] at h
      | some z =>
        simp only [hz, Option.bind_some] at h
        obtain ⟨hb, h⟩ := if_some h
        split at h
        · rename_i es z' m hm
          obtain ⟨hzz, h⟩ := if_some h
          cases h
          simp only [VRel] at hx ⊢
          obtain ⟨l, ad, cp, hl, rfl, hle0, hle, hx⟩ := hx
          have hr := hI.row id l es z' m hl hm
          have hlz : l.z = z := hr.zs.trans hzz
          rcases hx with ⟨h0, _⟩ | ⟨rfl, _⟩
          · omega
          · refine ⟨.pointer (some ⟨l.b, l.o + i * l.z + j'.toNat * z, none⟩), ?_, l, hl, ?_⟩
            · simp [Instr.indexAt, asIntOf, underlying_some hu, hb, run_sizeOf' hz, Addr.add_lit]
            · rw [hlz, Nat.add_mul]; simp [Nat.add_assoc]
        · simp at h
    · rename_i n e id i r hu
      cases hz : tsize P e with
      | none => simp [hz] at h
      | some z =>
        simp only [hz, Option.bind_some] at h
        obtain ⟨hb, h⟩ := if_some h
        cases h
        simp only [VRel] at hx ⊢
        obtain ⟨l, hl, rfl⟩ := hx
        refine ⟨.pointer (some ⟨l.b, l.o + i * l.z + r + j'.toNat * z, none⟩), ?_, l, hl, by simp [Nat.add_assoc]⟩
        simp [Instr.indexAt, asIntOf, underlying_some hu, hb, run_sizeOf' hz, Addr.add_lit, Instr.sureAddr]
    · rename_i n e cs r hu
      cases hz : tsize P e with
      | none => simp [hz] at h
      | some z =>
        simp only [hz, Option.bind_some] at h
        obtain ⟨hb, h⟩ := if_some h
        cases h
        simp only [VRel, IRel] at hx ⊢
        obtain ⟨b, o, rfl, hS, hc⟩ := hx
        refine ⟨.pointer (some ⟨b, o + r + j'.toNat * z, none⟩), ?_, b, o, by simp [Nat.add_assoc], hS, hc⟩
        simp [Instr.indexAt, asIntOf, underlying_some hu, hb, run_sizeOf' hz, Addr.add_lit, Instr.sureAddr]
    · simp at h
  · simp at h

theorem indexPV_sound {t : TypeId} {x ix p : PV} {a j : Value} (h : indexPV P t x ix = some p) (hx : VRel φ w S x a) (hj : VRel φ w S ix j) :
    ∃ u, (Instr.index t a j).run P w = .ok u w ∧ VRel φ w S p u := by
  unfold indexPV at h
  split at h
  · rename_i k j'
    simp only [VRel] at hj; subst hj
    split at h
    · rename_i n e cs hu
      cases hz : tsize P e with
      | none => simp [hz] at h
      | some z =>
        simp only [hz, Option.bind_some] at h
        obtain ⟨hb, h⟩ := if_some h
        simp only [VRel] at hx
        obtain ⟨arr, rfl, ho, hv⟩ := hx
        obtain ⟨u, h1, h2⟩ := partOf_val h ho hv
        exact ⟨u, by simp [Instr.index, asIntOf, underlying_some hu, hb, run_sizeOf' hz, h1], h2⟩
    · rename_i s hu
      obtain ⟨hb, h⟩ := if_some h
      simp only [VRel] at hx; subst hx
      cases hc : s.data.toList[j'.toNat]? with
      | none => simp [hc] at h
      | some b =>
        simp only [hc, Option.map_some, Option.some.injEq] at h
        subst h
        have hs : s[j'.toNat]? = some b := by
          have := List.getElem?_eq_some_iff.1 hc
          obtain ⟨hlt, hb'⟩ := this
          have hlt' : j'.toNat < s.size := by simpa using hlt
          rw [getElem?_pos s j'.toNat hlt']
          have hb2 : s.data[j'.toNat]'(by simpa using hlt) = b := by simpa using hb'
          exact congrArg some hb2
        exact ⟨_, by simp [Instr.index, asIntOf, underlying_some hu, hb, hs] <;> rfl, VRel_int _ _⟩
    · simp at h
  · simp at h

theorem lenPV_sound {ts : Array TypeId} {ty t : TypeId} {x p : PV} {a : Value} (hI : Inv φ H w S B) (ht : ts[0]? = some t) (h : lenPV P H t x = some p) (hx : VRel φ w S x a) :
    ∃ u, (Builtin.len_ ts ty #[a]).run P w = .ok u w ∧ VRel φ w S p u := by
  unfold lenPV at h
  split at h
  · rename_i s hu
    cases h; simp only [VRel] at hx; subst hx
    exact ⟨_, by simp [Builtin.len_, ht, underlying_some hu] <;> rfl, VRel_int _ _⟩
  · rename_i n e hu
    cases h
    exact ⟨_, by simp [Builtin.len_, ht, underlying_some hu] <;> rfl, VRel_int _ _⟩
  · rename_i e hu
    cases h; simp only [VRel] at hx; subst hx
    exact ⟨_, by simp [Builtin.len_, ht, underlying_some hu] <;> rfl, VRel_int _ _⟩
  · rename_i e es hu
    cases h; simp only [VRel, IRel] at hx
    obtain ⟨ad, c, rfl, _⟩ := hx
    exact ⟨_, by simp [Builtin.len_, ht, underlying_some hu] <;> rfl, VRel_int _ _⟩
  · rename_i e id i n hu
    cases h; simp only [VRel] at hx
    obtain ⟨l, ad, c, _, rfl, _⟩ := hx
    exact ⟨_, by simp [Builtin.len_, ht, underlying_some hu] <;> rfl, VRel_int _ _⟩
  · rename_i k e hu
    cases h; simp only [VRel] at hx; subst hx
    exact ⟨_, by simp [Builtin.len_, ht, underlying_some hu] <;> rfl, VRel_int _ _⟩
  · rename_i k e id hu
    split at h
    · rename_i es hm
      cases h; simp only [VRel] at hx
      obtain ⟨l, hl, rfl⟩ := hx
      obtain ⟨_, ents, clock, hb, hv⟩ := hI.map id l es hl hm
      have hlen : ents.toList.length = es.length := by
        clear hb hm
        generalize ents.toList = el at hv
        induction es generalizing el with
        | nil => simp only [VM] at hv; simp [hv]
        | cons x r ih =>
          obtain ⟨k, v⟩ := x
          obtain ⟨e, l', rfl, _, _, h4⟩ := hv
          simp [ih _ h4]
      refine ⟨.int .i64 ents.size, ?_, by simp only [VRel]; rw [← hlen]; simp⟩
      simp [Builtin.len_, ht, underlying_some hu, getObj, Sem.run, hb, goInt]
    · simp at h
  · simp at h

theorem extract_sound {x p : PV} {a : Value} {i : Nat} (h : aExtract (some x) i = some p) (hx : VRel φ w S x a) : ∃ u, (Instr.extract a i).run P w = .ok u w ∧ VRel φ w S p u := by
  unfold aExtract at h
  simp only [Option.bind_some] at h
  split at h
  · simp only [VRel] at hx
    obtain ⟨arr, rfl, hv⟩ := hx
    obtain ⟨v, h1, h2⟩ := VL.get hv h
    simp at h1
    exact ⟨v, by simp [Instr.extract, h1], h2⟩
  · simp at h

end
end Go.Am
