/-
  What leaves the evaluator's own memory: contents. Calls as functions of plain values.
-/
import Derived.Test.YtcclbkkgpcpikaaAm7
set_option linter.unusedSimpArgs false
set_option linter.unusedVariables false
namespace Go.Am
open Go.RowKit

section
variable {P : Program} {w : World} {φ : Phi} {S : Nat → Prop} {B : Nat} {H : List Mem}

def blocksOf (φ : Phi) (ids : List Nat) (b : Nat) : Prop := ∃ id ∈ ids, ∃ l, φ id = some l ∧ l.b = b
def withIds (S : Nat → Prop) (φ : Phi) (ids : List Nat) (b : Nat) : Prop := S b ∨ blocksOf φ ids b

theorem omap_widths {f : PV → Option PV} {es es' : List (List PV)} {z : Nat} (h : omap (omap f) es = some es') (hz : ∀ x ∈ es, x.length = z) : ∀ x ∈ es', x.length = z := by
  intro x hx
  obtain ⟨y, hy, he⟩ := omap_mem h x hx
  rw [omap_length he]; exact hz y hy

section
variable {ids : List Nat} {n : Nat}
/-- One level: what the values' level says, for lists. -/
theorem expL_sound (ih : ∀ v q c, exp n H v = some q → VRel φ w S v c → (∀ id ∈ rch n H v, id ∈ ids) → IRel w (withIds S φ ids) q c ∧ (oneP v = true → oneP q = true)) :
    ∀ (vs qs : List PV) (cs : List Value), omap (exp n H) vs = some qs → VL φ w S vs cs → (∀ id ∈ vs.flatMap (rch n H), id ∈ ids) → LRel w (withIds S φ ids) qs cs ∧ ((∀ v ∈ vs, oneP v = true) → ∀ q ∈ qs, oneP q = true)
  | [], qs, cs, h, hv, _ => by simp [omap_nil] at h; subst h; simp only [VL] at hv; exact ⟨by simp only [LRel]; exact hv, by simp⟩
  | v :: vs, qs, cs, h, hv, hr => by
    obtain ⟨q, s, h1, h2, rfl⟩ := omap_cons_some h
    simp only [VL] at hv
    obtain ⟨c, r, rfl, hv1, hv2⟩ := hv
    have hr1 : ∀ id ∈ rch n H v, id ∈ ids := fun id hid => hr id (by simp [List.flatMap_cons, hid])
    have hr2 : ∀ id ∈ vs.flatMap (rch n H), id ∈ ids := fun id hid => hr id (by rw [List.flatMap_cons]; exact List.mem_append_right _ hid)
    obtain ⟨a1, a2⟩ := ih v q c h1 hv1 hr1
    obtain ⟨b1, b2⟩ := expL_sound ih vs s r h2 hv2 hr2
    refine ⟨by simp only [LRel]; exact ⟨c, r, rfl, a1, b1⟩, fun ho x hx => ?_⟩
    rcases List.mem_cons.1 hx with rfl | hx
    · exact a2 (ho v List.mem_cons_self)
    · exact b2 (fun y hy => ho y (List.mem_cons_of_mem _ hy)) x hx
theorem expC_sound (ih : ∀ v q c, exp n H v = some q → VRel φ w S v c → (∀ id ∈ rch n H v, id ∈ ids) → IRel w (withIds S φ ids) q c ∧ (oneP v = true → oneP q = true)) :
    ∀ (vs qs : List PV) (b o : Nat), omap (exp n H) vs = some qs → VC φ w S vs b o → (∀ id ∈ vs.flatMap (rch n H), id ∈ ids) → CsRel w (withIds S φ ids) qs b o
  | [], qs, b, o, h, hv, _ => by simp [omap_nil] at h; subst h; simp only [CsRel]
  | v :: vs, qs, b, o, h, hv, hr => by
    obtain ⟨q, s, h1, h2, rfl⟩ := omap_cons_some h
    obtain ⟨⟨ho, c, hc, hv1⟩, hv2⟩ := hv
    have hr1 : ∀ id ∈ rch n H v, id ∈ ids := fun id hid => hr id (by simp [List.flatMap_cons, hid])
    have hr2 : ∀ id ∈ vs.flatMap (rch n H), id ∈ ids := fun id hid => hr id (by rw [List.flatMap_cons]; exact List.mem_append_right _ hid)
    obtain ⟨a1, a2⟩ := ih v q c h1 hv1 hr1
    simp only [CsRel]
    exact ⟨⟨a2 ho, c, hc, a1⟩, expC_sound ih vs s b (o + 1) h2 hv2 hr2⟩
theorem expE_sound (ih : ∀ v q c, exp n H v = some q → VRel φ w S v c → (∀ id ∈ rch n H v, id ∈ ids) → IRel w (withIds S φ ids) q c ∧ (oneP v = true → oneP q = true)) :
    ∀ (es qs : List (List PV)) (b o : Nat), omap (omap (exp n H)) es = some qs → VE φ w S es b o → (∀ id ∈ es.flatMap (fun c => c.flatMap (rch n H)), id ∈ ids) → EsRel w (withIds S φ ids) qs b o
  | [], qs, b, o, h, hv, _ => by simp [omap_nil] at h; subst h; simp only [EsRel]
  | c :: es, qs, b, o, h, hv, hr => by
    obtain ⟨q, s, h1, h2, rfl⟩ := omap_cons_some h
    have hr1 : ∀ id ∈ c.flatMap (rch n H), id ∈ ids := fun id hid => hr id (by rw [List.flatMap_cons]; exact List.mem_append_left _ hid)
    have hr2 : ∀ id ∈ es.flatMap (fun c => c.flatMap (rch n H)), id ∈ ids := fun id hid => hr id (by rw [List.flatMap_cons]; exact List.mem_append_right _ hid)
    simp only [EsRel]
    exact ⟨expC_sound ih c q b o h1 hv.1 hr1, by rw [omap_length h1]; exact expE_sound ih es s b _ h2 hv.2 hr2⟩
end

theorem exp_sound (hI : Inv φ H w S B) (ids : List Nat) : ∀ (n : Nat) (v q : PV) (c : Value), exp n H v = some q → VRel φ w S v c → (∀ id ∈ rch n H v, id ∈ ids) → IRel w (withIds S φ ids) q c ∧ (oneP v = true → oneP q = true)
  | 0, v, q, c, h, _, _ => by simp [exp] at h
  | n + 1, v, q, c, h, hv, hr => by
    have ih := exp_sound hI ids n
    have hst : ∀ b, S b → withIds S φ ids b ∧ w.heap[b]? = w.heap[b]? := fun b hb => ⟨.inl hb, rfl⟩
    cases v with
    | nils => simp only [exp, Option.some.injEq] at h; subst h; exact ⟨by simpa only [IRel, VRel] using hv, fun _ => rfl⟩
    | bool b => simp only [exp, Option.some.injEq] at h; subst h; exact ⟨by simpa only [IRel, VRel] using hv, fun _ => rfl⟩
    | int k m => simp only [exp, Option.some.injEq] at h; subst h; exact ⟨by simpa only [IRel, VRel] using hv, fun _ => rfl⟩
    | str s => simp only [exp, Option.some.injEq] at h; subst h; exact ⟨by simpa only [IRel, VRel] using hv, fun _ => rfl⟩
    | nilp => simp only [exp, Option.some.injEq] at h; subst h; exact ⟨by simpa only [IRel, VRel] using hv, fun _ => rfl⟩
    | nilf => simp only [exp, Option.some.injEq] at h; subst h; exact ⟨by simpa only [IRel, VRel] using hv, fun _ => rfl⟩
    | nilm => simp only [exp, Option.some.injEq] at h; subst h; exact ⟨by simpa only [IRel, VRel] using hv, fun _ => rfl⟩
    | lst es => simp only [exp, Option.some.injEq] at h; subst h; simp only [VRel] at hv; exact ⟨IRel.mono hst _ _ hv, fun _ => rfl⟩
    | box cs r => simp only [exp, Option.some.injEq] at h; subst h; simp only [VRel] at hv; exact ⟨IRel.mono hst _ _ hv, fun _ => rfl⟩
    | map id => simp [exp] at h
    | ref id i l room =>
      simp only [exp] at h
      split at h
      · rename_i es z m hm
        obtain ⟨hle, h⟩ := if_some h
        cases he : omap (omap (exp n H)) ((es.drop i).take l) with
        | none => simp [he] at h
        | some qs =>
          simp only [he, Option.map_some, Option.some.injEq] at h
          subst h
          refine ⟨?_, fun _ => rfl⟩
          simp only [VRel] at hv
          obtain ⟨lc, ad, cp, hlc, rfl, hlcp0, hlcp1, hx⟩ := hv
          have hlcp : l ≤ cp := Nat.le_trans hlcp0 hlcp1
          have hlen : ((es.drop i).take l).length = l := by rw [List.length_take, List.length_drop]; omega
          have hql : qs.length = l := by rw [omap_length he, hlen]
          have hr0 : ∀ x ∈ id :: ((es.drop i).take l).flatMap (fun c => c.flatMap (rch n H)), x ∈ ids := by
            intro x hx; apply hr; simp only [rch, hm]; exact hx
          have hrow := hI.row id lc es z m hlc hm
          simp only [IRel]
          refine ⟨ad, cp, by rw [hql], by rw [hql]; exact hlcp, ?_⟩
          rcases hx with ⟨h0, _⟩ | ⟨rfl, _⟩
          · left; exact List.length_eq_zero_iff.1 (by omega)
          · right
            refine ⟨lc.b, lc.o + i * lc.z, z, rfl, .inr ⟨id, hr0 id List.mem_cons_self, lc, hlc, rfl⟩, omap_widths he (fun x hx => hrow.wid x (List.mem_of_mem_drop (List.mem_of_mem_take hx))), ?_⟩
            refine expE_sound ih _ _ _ _ he ?_ (fun x hx => hr0 x (List.mem_cons_of_mem _ hx))
            rw [hrow.zs]
            exact VE.take l (VE.drop i hrow.wid (by omega) hrow.cells)
      · cases h
    | ptr id i r =>
      simp only [exp] at h
      split at h
      · rename_i es z m hm
        cases hc : es[i]? with
        | none => simp [hc] at h
        | some cc =>
          simp only [hc, Option.bind_some] at h
          cases he : omap (exp n H) cc with
          | none => simp [he] at h
          | some qs =>
            simp only [he, Option.map_some, Option.some.injEq] at h
            subst h
            refine ⟨?_, fun _ => rfl⟩
            simp only [VRel] at hv
            obtain ⟨lc, hlc, rfl⟩ := hv
            have hr0 : ∀ x ∈ id :: cc.flatMap (rch n H), x ∈ ids := by
              intro x hx; apply hr; simp only [rch, hm, hc, Option.getD_some]; exact hx
            have hrow := hI.row id lc es z m hlc hm
            simp only [IRel]
            refine ⟨lc.b, lc.o + i * lc.z, rfl, .inr ⟨id, hr0 id List.mem_cons_self, lc, hlc, rfl⟩, ?_⟩
            refine expC_sound ih _ _ _ _ he ?_ (fun x hx => hr0 x (List.mem_cons_of_mem _ hx))
            rw [hrow.zs]
            exact VE.get hrow.wid hrow.cells hc
      · cases h
    | func f a c' =>
      simp only [exp] at h
      cases h1 : omap (exp n H) a with
      | none => simp [h1] at h
      | some a' =>
        cases h2 : omap (exp n H) c' with
        | none => simp [h1, h2] at h
        | some c2 =>
          simp only [h1, h2, Option.bind_some, Option.map_some, Option.some.injEq] at h
          subst h
          simp only [VRel] at hv
          obtain ⟨fs, cs, rfl, hv1, hv2⟩ := hv
          have hr0 : ∀ x ∈ a.flatMap (rch n H) ++ c'.flatMap (rch n H), x ∈ ids := by
            intro x hx; apply hr; simp only [rch]; exact hx
          refine ⟨?_, fun _ => rfl⟩
          simp only [IRel]
          exact ⟨fs, cs, rfl, (expL_sound ih a a' _ h1 hv1 fun x hx => hr0 x (List.mem_append_left _ hx)).1, (expL_sound ih c' c2 _ h2 hv2 fun x hx => hr0 x (List.mem_append_right _ hx)).1⟩
    | agg cs =>
      simp only [exp] at h
      cases h1 : omap (exp n H) cs with
      | none => simp [h1] at h
      | some qs =>
        simp only [h1, Option.map_some, Option.some.injEq] at h
        subst h
        simp only [VRel] at hv
        obtain ⟨arr, rfl, ho, hv1⟩ := hv
        obtain ⟨a1, a2⟩ := expL_sound ih cs qs _ h1 hv1 (fun x hx => hr x (by simp only [rch]; exact hx))
        exact ⟨by simp only [IRel]; exact ⟨arr, rfl, a2 ho, a1⟩, fun h => by simp [oneP] at h⟩
    | tup cs =>
      simp only [exp] at h
      cases h1 : omap (exp n H) cs with
      | none => simp [h1] at h
      | some qs =>
        simp only [h1, Option.map_some, Option.some.injEq] at h
        subst h
        simp only [VRel] at hv
        obtain ⟨arr, rfl, hv1⟩ := hv
        obtain ⟨a1, a2⟩ := expL_sound ih cs qs _ h1 hv1 (fun x hx => hr x (by simp only [rch]; exact hx))
        exact ⟨by simp only [IRel]; exact ⟨arr, rfl, a1⟩, fun h => by simp [oneP] at h⟩

/-- Own rows that are reached are there. -/
theorem rch_lt : ∀ (n : Nat) (v : PV) (id : Nat), id ∈ rch n H v → id < H.length
  | 0, v, id, h => by simp [rch] at h
  | n + 1, v, id, h => by
    have ih := rch_lt n
    have hl : ∀ (l : List PV), id ∈ l.flatMap (rch n H) → id < H.length := by
      intro l hl; obtain ⟨x, _, hx⟩ := List.mem_flatMap.1 hl; exact ih x id hx
    cases v <;> simp only [rch] at h <;> try (simp at h; done)
    · rename_i i j r
      split at h
      · rename_i hm
        rcases List.mem_cons.1 h with rfl | h
        · exact (List.getElem?_eq_some_iff.1 hm).1
        · exact hl _ h
      · simp at h
    · rename_i i j r
      split at h
      · rename_i hm
        rcases List.mem_cons.1 h with rfl | h
        · exact (List.getElem?_eq_some_iff.1 hm).1
        · obtain ⟨x, _, hx⟩ := List.mem_flatMap.1 h; exact hl _ hx
      · simp at h
    · rcases List.mem_append.1 h with h | h <;> exact hl _ h
    · exact hl _ h
    · exact hl _ h

theorem rch_row : ∀ (n : Nat) (v : PV) (id : Nat), id ∈ rch n H v → ∃ es z m, H[id]? = some (.row es z m)
  | 0, v, id, h => by simp [rch] at h
  | n + 1, v, id, h => by
    have ih := rch_row n
    have hl : ∀ (l : List PV), id ∈ l.flatMap (rch n H) → ∃ es z m, H[id]? = some (.row es z m) := by
      intro l hl; obtain ⟨x, _, hx⟩ := List.mem_flatMap.1 hl; exact ih x id hx
    cases v <;> simp only [rch] at h <;> try (simp at h; done)
    · rename_i i j r
      split at h
      · rename_i hm
        rcases List.mem_cons.1 h with rfl | h
        · exact ⟨_, _, _, hm⟩
        · exact hl _ h
      · simp at h
    · rename_i i j r
      split at h
      · rename_i hm
        rcases List.mem_cons.1 h with rfl | h
        · exact ⟨_, _, _, hm⟩
        · obtain ⟨x, _, hx⟩ := List.mem_flatMap.1 h; exact hl _ hx
      · simp at h
    · rcases List.mem_append.1 h with h | h <;> exact hl _ h
    · exact hl _ h
    · exact hl _ h

def plain1 : PV → Bool
  | .bool _ | .int _ _ | .str _ | .nilp | .nils | .nilf | .nilm => true
  | .lst es => es.isEmpty
  | _ => false
theorem plain1_mono {S' : Nat → Prop} {p : PV} {v : Value} (h : plain1 p = true) (hv : IRel w S p v) : IRel w S' p v := by
  cases p <;> simp only [plain1] at h <;> try (simp at h; done)
  all_goals first
    | (simpa only [IRel] using hv)
    | (simp only [IRel] at hv ⊢
       have he : _ = [] := List.isEmpty_iff.1 h
       obtain ⟨a, c, h1, h2, _⟩ := hv
       exact ⟨a, c, h1, h2, .inl he⟩)
theorem plainL_mono {S' : Nat → Prop} : ∀ {ps : List PV} {vs : List Value}, ps.all plain1 = true → LRel w S ps vs → LRel w S' ps vs
  | [], _, _, hv => by simpa only [LRel] using hv
  | p :: ps, _, h, hv => by
    simp only [List.all_cons, Bool.and_eq_true] at h
    simp only [LRel] at hv ⊢
    obtain ⟨v, r, rfl, h1, h2⟩ := hv
    exact ⟨v, r, rfl, plain1_mono h.1 h1, plainL_mono h.2 h2⟩
def plain2 : PV → Bool
  | .agg cs => cs.all plain1
  | p => plain1 p
theorem plain2_mono {S' : Nat → Prop} {p : PV} {v : Value} (h : plain2 p = true) (hv : IRel w S p v) : IRel w S' p v := by
  cases p with
  | agg cs =>
    simp only [plain2] at h
    simp only [IRel] at hv ⊢
    obtain ⟨arr, rfl, ho, hv⟩ := hv
    exact ⟨arr, rfl, ho, plainL_mono h hv⟩
  | _ => exact plain1_mono h hv
theorem plainL2_mono {S' : Nat → Prop} : ∀ {ps : List PV} {vs : List Value}, ps.all plain2 = true → LRel w S ps vs → LRel w S' ps vs
  | [], _, _, hv => by simpa only [LRel] using hv
  | p :: ps, _, h, hv => by
    simp only [List.all_cons, Bool.and_eq_true] at h
    simp only [LRel] at hv ⊢
    obtain ⟨v, r, rfl, h1, h2⟩ := hv
    exact ⟨v, r, rfl, plain2_mono h.1 h1, plainL2_mono h.2 h2⟩
theorem noMem_mono {S' : Nat → Prop} {p : PV} {v : Value} (h : noMem p = true) (hv : IRel w S p v) : IRel w S' p v := by
  cases p with
  | agg cs =>
    refine plain2_mono ?_ hv
    simp only [noMem] at h
    simp only [plain2]
    rw [List.all_eq_true] at h ⊢
    intro x hx
    have := h x hx
    cases x <;> simp_all [plain1]
  | tup vs =>
    simp only [IRel] at hv ⊢
    obtain ⟨arr, rfl, hv⟩ := hv
    refine ⟨arr, rfl, plainL2_mono ?_ hv⟩
    simp only [noMem] at h
    rw [List.all_eq_true] at h ⊢
    intro x hx
    have := h x hx
    cases x <;> simp_all [plain1, plain2]
    rename_i cs
    intro y hy
    have := this y hy
    cases y <;> simp_all [plain1]
  | bool b => exact plain1_mono rfl hv
  | int k n => exact plain1_mono rfl hv
  | str s => exact plain1_mono rfl hv
  | nilp => exact plain1_mono rfl hv
  | nils => exact plain1_mono rfl hv
  | nilf => exact plain1_mono rfl hv
  | nilm => exact plain1_mono rfl hv
  | lst es => exact plain1_mono h hv
  | ptr _ _ _ => simp [noMem] at h
  | ref _ _ _ _ => simp [noMem] at h
  | map _ => simp [noMem] at h
  | box _ _ => simp [noMem] at h
  | func _ _ _ => simp [noMem] at h

end
end Go.Am
