/-
  Slices of slices, conversions, maps; new own memory.
-/
import Derived.Test.YtcclbkkgpcpikaaAm4
set_option linter.unusedSimpArgs false
set_option linter.unusedVariables false
namespace Go.Am
open Go.RowKit

section
variable {P : Program} {w : World} {φ : Phi} {S : Nat → Prop} {B : Nat} {H : List Mem}

def ORel (φ : Phi) (w : World) (S : Nat → Prop) : Option PV → Option Value → Prop
  | none, v => v = none
  | some p, v => ∃ u, v = some u ∧ VRel φ w S p u

theorem bHi_sound {n c x : Nat} {hi : Option PV} {hi' : Option Value} {isS : Bool} (hx : bHi n hi = some x) (hc : n ≤ c) (hh : ORel φ w S hi hi') :
    x ≤ n ∧ (match hi' with | some v => Instr.sliceBound v c (if isS then .sliceAcap else .sliceAlen) | none => pure n : Sem Nat).run P w = .ok x w := by
  unfold bHi at hx
  split at hx
  · cases hx; simp only [ORel] at hh; subst hh; exact ⟨Nat.le_refl _, rfl⟩
  · rename_i k j
    obtain ⟨hj, hx⟩ := if_some hx
    cases hx
    simp only [ORel, VRel] at hh
    obtain ⟨u, rfl, rfl⟩ := hh
    refine ⟨by omega, ?_⟩
    have : 0 ≤ j ∧ j ≤ (c : Int) := ⟨hj.1, by omega⟩
    simp [Instr.sliceBound, asIntOf, this]
  · cases hx
theorem bLo_sound {x y : Nat} {lo : Option PV} {lo' : Option Value} (hy : bLo x lo = some y) (hl : ORel φ w S lo lo') :
    y ≤ x ∧ (match lo' with | some v => Instr.sliceBound v x .sliceB | none => pure 0 : Sem Nat).run P w = .ok y w := by
  unfold bLo at hy
  split at hy
  · cases hy; simp only [ORel] at hl; subst hl; exact ⟨Nat.zero_le _, rfl⟩
  · rename_i k j
    obtain ⟨hj, hy⟩ := if_some hy
    cases hy
    simp only [ORel, VRel] at hl
    obtain ⟨u, rfl, rfl⟩ := hl
    refine ⟨by omega, ?_⟩
    simp [Instr.sliceBound, asIntOf, hj]
  · cases hy
theorem bounds_sound {n c : Nat} {lo hi : Option PV} {lo' hi' : Option Value} {l h : Nat} {isS : Bool} (hb : bounds n lo hi = some (l, h)) (hc : n ≤ c) (hl : ORel φ w S lo lo') (hh : ORel φ w S hi hi') :
    (Instr.sliceBounds isS n c lo' hi' none).run P w = .ok (l, h, c) w ∧ l ≤ h ∧ h ≤ n := by
  unfold bounds at hb
  cases hx : bHi n hi with
  | none => simp [hx] at hb
  | some x =>
    simp only [hx, Option.bind_some] at hb
    cases hy : bLo x lo with
    | none => simp [hy] at hb
    | some y =>
      simp only [hy, Option.bind_some, Option.some.injEq, Prod.mk.injEq] at hb
      obtain ⟨rfl, rfl⟩ := hb
      obtain ⟨hxn, hrun⟩ := bHi_sound (P := P) (isS := isS) hx hc hh
      obtain ⟨hyx, hrun2⟩ := bLo_sound (P := P) hy hl
      refine ⟨?_, hyx, hxn⟩
      cases hi' with
      | none =>
        have e1 : x = n := by simp at hrun; exact hrun.symm
        subst e1
        cases lo' with
        | none => have e2 : y = 0 := by simp at hrun2; exact hrun2.symm
                  subst e2; simp [Instr.sliceBounds]
        | some lv => simp only [] at hrun2; simp [Instr.sliceBounds, hrun2]
      | some hv =>
        simp only [] at hrun
        cases lo' with
        | none => have e2 : y = 0 := by simp at hrun2; exact hrun2.symm
                  subst e2; simp [Instr.sliceBounds, hrun]
        | some lv => simp only [] at hrun2; simp [Instr.sliceBounds, hrun, hrun2]

theorem bounds3_sound {n m c : Nat} {lo hi mx : Option PV} {lo' hi' mx' : Option Value} {l h x : Nat} (hb : bounds3 n m lo hi mx = some (l, h, x)) (hn : n ≤ m) (hc : m ≤ c) (hl : ORel φ w S lo lo') (hh : ORel φ w S hi hi') (hm : ORel φ w S mx mx') :
    ∃ X, (Instr.sliceBounds true n c lo' hi' mx').run P w = .ok (l, h, X) w ∧ l ≤ h ∧ h ≤ x ∧ x ≤ m ∧ x ≤ X ∧ X ≤ c := by
  unfold bounds3 at hb
  split at hb
  · cases hb
  rename_i hmh
  have hmh' : mx.isSome = true → hi.isNone = true → False := by intro a b; apply hmh; simp [a, b]
  clear hmh
  obtain ⟨h0, hx, hb2⟩ := bind1 hb
  obtain ⟨l0, hy, hb3⟩ := bind1 hb2
  obtain ⟨x0, hz, hb4⟩ := bind1 hb3
  simp only [Option.some.injEq, Prod.mk.injEq] at hb4
  clear hb hb2 hb3
  obtain ⟨rfl, rfl, rfl⟩ := hb4
  obtain ⟨hll, _⟩ := bLo_sound (P := P) hy hl
  cases mx with
  | none =>
    simp only [ORel] at hm; subst hm
    simp only [bMx, Option.some.injEq] at hz
    subst hz
    cases hi with
    | none =>
      simp only [bHiR, Option.some.injEq] at hx; subst hx
      simp only [ORel] at hh; subst hh
      refine ⟨c, ?_, hll, hn, Nat.le_refl _, hc, Nat.le_refl _⟩
      cases lo with
      | none => simp only [bLo, Option.some.injEq] at hy; subst hy; simp only [ORel] at hl; subst hl; simp [Instr.sliceBounds]
      | some lv =>
        have h2 := (bLo_sound (P := P) hy hl).2
        obtain ⟨u, rfl, _⟩ := hl
        simp only [] at h2
        simp [Instr.sliceBounds, h2]
    | some hv =>
      cases hv <;> simp only [bHiR] at hx <;> try (cases hx; done)
      rename_i k j
      obtain ⟨hj, hx⟩ := if_some hx
      cases hx
      simp only [ORel, VRel] at hh
      obtain ⟨u, rfl, rfl⟩ := hh
      have hjc : 0 ≤ j ∧ j ≤ (c : Int) := ⟨hj.1, by omega⟩
      have hjm : j.toNat ≤ m := by omega
      have hx1 : (Instr.sliceBound (.int k j) c .sliceAcap).run P w = .ok j.toNat w := by simp [Instr.sliceBound, asIntOf, hjc]
      refine ⟨c, ?_, hll, hjm, Nat.le_refl _, hc, Nat.le_refl _⟩
      cases lo with
      | none => simp only [bLo, Option.some.injEq] at hy; subst hy; simp only [ORel] at hl; subst hl; simp [Instr.sliceBounds, Instr.sliceBound, asIntOf, hjc]
      | some lv =>
        have h2 := (bLo_sound (P := P) hy hl).2
        obtain ⟨u, rfl, _⟩ := hl
        simp only [] at h2
        simp [Instr.sliceBounds, hx1, h2]
  | some mv =>
    cases mv <;> simp only [bMx] at hz <;> try (cases hz; done)
    rename_i k j
    obtain ⟨hj, hz⟩ := if_some hz
    cases hz
    simp only [ORel, VRel] at hm
    obtain ⟨u, rfl, rfl⟩ := hm
    have hjc : 0 ≤ j ∧ j ≤ (c : Int) := ⟨by omega, by omega⟩
    cases hi with
    | none => exact (hmh' rfl rfl).elim
    | some hv =>
      cases hv <;> simp only [bHiR] at hx <;> try (cases hx; done)
      rename_i k' j'
      obtain ⟨hj', hx⟩ := if_some hx
      cases hx
      simp only [ORel, VRel] at hh
      obtain ⟨u, rfl, rfl⟩ := hh
      have hjj : 0 ≤ j' ∧ j' ≤ (j.toNat : Int) := ⟨hj'.1, by omega⟩
      have hx1 : (Instr.sliceBound (.int k j) c .slice3Acap).run P w = .ok j.toNat w := by simp [Instr.sliceBound, asIntOf, hjc]
      have hx2 : (Instr.sliceBound (.int k' j') j.toNat .slice3B).run P w = .ok j'.toNat w := by rw [Instr.sliceBound]; simp only [asIntOf]; simp [-Int.ofNat_toNat, hjj]
      refine ⟨j.toNat, ?_, hll, by omega, by omega, Nat.le_refl _, by omega⟩
      cases lo with
      | none => simp only [bLo, Option.some.injEq] at hy; subst hy; simp only [ORel] at hl; subst hl; simp [Instr.sliceBounds, hx1, hx2]
      | some lv =>
        cases lv <;> simp only [bLo] at hy <;> try (cases hy; done)
        rename_i k2 j2
        obtain ⟨hj2, hy⟩ := if_some hy
        cases hy
        simp only [ORel, VRel] at hl
        obtain ⟨u, rfl, rfl⟩ := hl
        simp [Instr.sliceBounds, hx1, hx2]
        simp [Instr.sliceBound, asIntOf]
        omega

theorem slicePV_sound {t : TypeId} {x p : PV} {lo hi mx : Option PV} {a : Value} {lo' hi' mx' : Option Value} (hI : Inv φ H w S B) (h : slicePV P H t x lo hi mx = some p) (hx : VRel φ w S x a)
    (hl : ORel φ w S lo lo') (hh : ORel φ w S hi hi') (hm : ORel φ w S mx mx') : ∃ u, (Instr.sliceAt t a lo' hi' mx').run P w = .ok u w ∧ VRel φ w S p u := by
  unfold slicePV at h
  split at h
  · rename_i s hu
    split at h
    · simp only [ORel] at hm; subst hm
      simp only [VRel] at hx; subst hx
      cases hb : bounds s.size lo hi with
      | none => simp [hb] at h
      | some lh =>
        obtain ⟨l, k⟩ := lh
        simp only [hb, Option.map_some, Option.some.injEq] at h
        subst h
        obtain ⟨hr, _⟩ := bounds_sound (P := P) (isS := false) hb (Nat.le_refl _) hl hh
        exact ⟨_, by simp [Instr.sliceAt, Instr.slice, underlying_some hu, hr] <;> rfl, VRel_str _⟩
    · cases h
  · rename_i e es hu
    obtain ⟨z, hz, h⟩ := bind1 h
    obtain ⟨⟨l, k, x⟩, hb, h⟩ := bind1 h
    obtain ⟨hho, h⟩ := if_some h
    cases h
    simp only [VRel, IRel] at hx ⊢
    obtain ⟨ad, c, rfl, hle, hx⟩ := hx
    obtain ⟨X, hr, h1, h2, h3, h4, h5⟩ := bounds3_sound (P := P) hb (Nat.le_refl _) hle hl hh hm
    have hlen : ((es.take k).drop l).length = k - l := by simp [List.length_drop, List.length_take]; omega
    refine ⟨.slice (some (if X = l then ad else ad.add (l * z))) (k - l) (X - l), ?_, (if X = l then ad else ad.add (l * z)), X - l, by rw [hlen], by rw [hlen]; omega, ?_⟩
    · simp [Instr.sliceAt, Instr.slice, underlying_some hu, hr, run_sizeOf' hz]
      try (split <;> rfl)
    · by_cases hcl : X = l
      · left
        have : k - l = 0 := by omega
        exact List.length_eq_zero_iff.1 (by omega)
      · rcases hx with rfl | ⟨b, o, z', rfl, hS, hw, he⟩
        · left; simp
        · right
          have hzz : l = 0 ∨ z' = z := by
            cases es with
            | nil => left; simp at h3; omega
            | cons c0 r =>
              right
              simp only [headOk, beq_iff_eq] at hho
              rw [← hw c0 List.mem_cons_self, hho]
          refine ⟨b, o + l * z', z', ?_, hS, fun x hx => hw x (List.mem_of_mem_take (List.mem_of_mem_drop hx)), ?_⟩
          · rw [if_neg hcl]
            simp only [Addr.add_lit]
            rcases hzz with rfl | rfl <;> simp
          · exact EsRel.drop l (fun c hc => hw c (List.mem_of_mem_take hc)) (by rw [List.length_take]; omega) (EsRel.take k he)
  · rename_i e id i n room hu
    obtain ⟨z, hz, h⟩ := bind1 h
    obtain ⟨⟨l, k, x⟩, hb, h⟩ := bind1 h
    simp only at h
    split at h
    · rename_i es z' m hmm
      obtain ⟨hzz, h⟩ := if_some h
      cases h
      simp only [VRel] at hx ⊢
      obtain ⟨lc, ad, c, hlc, rfl, hle0, hle, hx⟩ := hx
      obtain ⟨X, hr, h1, h2, h3, h4, h5⟩ := bounds3_sound (P := P) hb hle0 hle hl hh hm
      have hrow := hI.row id lc es z' m hlc hmm
      have hlz : lc.z = z := hrow.zs.trans hzz
      refine ⟨.slice (some (if X = l then ad else ad.add (l * z))) (k - l) (X - l), ?_, lc, (if X = l then ad else ad.add (l * z)), X - l, hlc, rfl, by omega, by omega, ?_⟩
      · simp [Instr.sliceAt, Instr.slice, underlying_some hu, hr, run_sizeOf' hz]
        split <;> rfl
      · by_cases hcl : X = l
        · left; omega
        · rcases hx with ⟨h0, hc0⟩ | ⟨rfl, htop⟩
          · omega
          · right
            refine ⟨?_, ?_⟩
            · rw [if_neg hcl, Addr.add_lit, hlz, Nat.add_mul]; simp [Nat.add_assoc]
            · have hle2 : (i + l + (X - l)) ≤ i + c := by omega
              exact Nat.le_trans (Nat.mul_le_mul_right _ hle2) htop
    · cases h
  · rename_i e hu
    simp only [VRel] at hx; subst hx
    obtain ⟨z, hz, h⟩ := bind1 h
    obtain ⟨⟨l, k, x⟩, hb, h⟩ := map1 h
    subst h
    obtain ⟨X, hr, h1, h2, h3, h4, h5⟩ := bounds3_sound (P := P) hb (Nat.le_refl _) (Nat.le_refl _) hl hh hm
    have e1 : k = 0 := by omega
    have e2 : l = 0 := by omega
    have e3 : X = 0 := by omega
    subst e1; subst e2; subst e3
    refine ⟨.slice none 0 0, ?_, by simp only [VRel]⟩
    simp [Instr.sliceAt, Instr.slice, underlying_some hu, hr, run_sizeOf' hz]
  · cases h
theorem frozen_of_blk {w w' : World} {b : Nat} (h : w'.heap[b]? = w.heap[b]?) (o : Nat) : w'.frozen? ⟨b, o, none⟩ = w.frozen? ⟨b, o, none⟩ := by simp [World.frozen?, h]

theorem RowAt.mono {φ' : Phi} {w' : World} {S' : Nat → Prop} {l : Loc} {es : List (List PV)} {z : Nat} {m : Bool} (h : RowAt φ w S l es z m) (hp : ∀ id l, φ id = some l → φ' id = some l) (hs : ∀ b, S b → S' b ∧ w'.heap[b]? = w.heap[b]?)
    (hb : w'.heap[l.b]? = w.heap[l.b]?) (hS2 : S' l.b → S l.b) : RowAt φ' w' S' l es z m where
  zs := h.zs
  top := h.top
  wid := h.wid
  cells := VE.mono hp hs _ _ _ hb h.cells
  blk := by
    obtain ⟨cur, e, fz, h1, h2, h3⟩ := h.blk
    exact ⟨cur, e, fz, by rw [hb]; exact h1, h2, fun hm j hj => by rw [frozen_of_blk hb]; exact h3 hm j hj⟩
  own := fun hm hs' => h.own hm (hS2 hs')
  frz := fun hm => (hs _ (h.frz hm)).1

theorem Inv.ext {w' : World} {S' : Nat → Prop} (hI : Inv φ H w S B) (hb : Below w.heap.size w w') (hS : ∀ b, S b → S' b) (hS' : ∀ b, S' b → b < w'.heap.size) (hS2 : ∀ b, b < w.heap.size → S' b → S b) : Inv φ H w' S' B ∧ Evo H.length B φ S w φ S' w' := by
  have hs : ∀ b, S b → S' b ∧ w'.heap[b]? = w.heap[b]? := fun b h => ⟨hS b h, hb.block b (hI.stable b h)⟩
  refine ⟨⟨?_, ?_, ?_, hI.apart, hS', Nat.le_trans hI.base hb.size⟩, fun _ _ _ h => h, hs, fun b hb' h => hS2 b (Nat.lt_of_lt_of_le hb' hI.base) h, hb.mono hI.base⟩
  · intro id l h
    have := hI.live id l h
    exact ⟨this.1, Nat.lt_of_lt_of_le this.2.1 hb.size, this.2.2⟩
  · intro id l es z m h h2
    exact (hI.row id l es z m h h2).mono (fun _ _ h => h) hs (hb.block _ (hI.live id l h).2.1) (hS2 _ (hI.live id l h).2.1)
  · intro id l es h h2
    obtain ⟨h3, ents, clock, h4, h5⟩ := hI.map id l es h h2
    exact ⟨fun hx => h3 (hS2 _ (hI.live id l h).2.1 hx), ents, clock, by rw [hb.block _ (hI.live id l h).2.1]; exact h4, VM.mono (fun _ _ h => h) hs _ _ h5⟩

/-- A block of somebody else's is new: it is stable. -/
theorem Inv.foreign {w' : World} (hI : Inv φ H w S B) (hb : Below w.heap.size w w') : Inv φ H w' (fun b => S b ∨ (w.heap.size ≤ b ∧ b < w'.heap.size)) B ∧ Evo H.length B φ S w φ (fun b => S b ∨ (w.heap.size ≤ b ∧ b < w'.heap.size)) w' :=
  hI.ext hb (fun b h => .inl h) (fun b h => h.elim (fun h => Nat.lt_of_lt_of_le (hI.stable b h) hb.size) (fun h => h.2)) (fun b hlt h => h.elim id (fun h => by omega))

/-- A new own row. -/
theorem Inv.add {w' : World} {id : Nat} {es : List (List PV)} {z : Nat} {m0 : Bool} {cur : Array Value} {e : TypeId} {fz : Nat × Nat} {vs : List Value} (hI : Inv φ H w S B) (hb : Below w.heap.size w w') (hφ : φ id = none) (hH : H[id]? = some (.row es z m0))
    (hnew : w'.heap[w.heap.size]? = some (.cells cur e fz)) (hwid : ∀ c ∈ es, c.length = z) (hv : VL φ w S es.flatten vs) (h1 : ∀ c ∈ es.flatten, oneP c = true) (hcur : ∀ (j : Nat) (v : Value), vs[j]? = some v → cur[j]? = some v)
    (htop : es.length * z ≤ cur.size) (hfz : ∀ j, j < cur.size → ¬ (fz.1 ≤ j ∧ j < fz.2)) :
    ∃ φ' S', Inv φ' H w' S' B ∧ Evo H.length B φ S w φ' S' w' ∧ φ' id = some ⟨w.heap.size, 0, z, cur.size⟩ ∧ (∀ i, i ≠ id → φ' i = φ i) := by
  have hlt : w.heap.size < w'.heap.size := by
    rcases Nat.lt_or_ge w.heap.size w'.heap.size with h | h
    · exact h
    · rw [Array.getElem?_eq_none h] at hnew; cases hnew
  have hidlt : id < H.length := (List.getElem?_eq_some_iff.1 hH).1
  let φ' : Phi := fun i => if i = id then some ⟨w.heap.size, 0, z, cur.size⟩ else φ i
  let S' : Nat → Prop := fun b => S b ∨ (m0 = false ∧ b = w.heap.size)
  have hp : ∀ i l, φ i = some l → φ' i = some l := by
    intro i l h
    show (if i = id then _ else φ i) = _
    rw [if_neg]
    · exact h
    · rintro rfl; rw [hφ] at h; cases h
  have hs : ∀ b, S b → S' b ∧ w'.heap[b]? = w.heap[b]? := fun b h => ⟨.inl h, hb.block b (hI.stable b h)⟩
  have hS2 : ∀ b, b < w.heap.size → S' b → S b := by
    rintro b hlt (h | ⟨_, h⟩)
    · exact h
    · omega
  have hid : φ' id = some ⟨w.heap.size, 0, z, cur.size⟩ := if_pos rfl
  have hother : ∀ i, i ≠ id → φ' i = φ i := fun i h => if_neg h
  refine ⟨φ', S', ⟨?_, ?_, ?_, ?_, ?_, Nat.le_trans hI.base hb.size⟩, ⟨fun i l _ h => hp i l h, hs, fun b hb' h => hS2 b (Nat.lt_of_lt_of_le hb' hI.base) h, hb.mono hI.base⟩, hid, hother⟩
  · intro i l h
    by_cases hi : i = id
    · subst hi; rw [hid] at h; cases h; exact ⟨hI.base, hlt, hidlt⟩
    · rw [hother i hi] at h
      have := hI.live i l h
      exact ⟨this.1, Nat.lt_of_lt_of_le this.2.1 hb.size, this.2.2⟩
  · intro i l es' z' m h h2
    by_cases hi : i = id
    · subst hi
      rw [hid] at h; cases h
      rw [hH] at h2; cases h2
      refine ⟨rfl, htop, hwid, ?_, ⟨cur, e, fz, hnew, by simp, ?_⟩, ?_, ?_⟩
      · refine VE.of_flat (VC.of_vals (VL.mono hp hs _ _ hv) h1 ?_)
        intro j v hj
        have hc := hcur j v hj
        simp [World.cell?, hnew, hc]
      · intro _ j hj
        have := hfz j hj
        simp only [World.frozen?, hnew, Bool.and_eq_false_iff, decide_eq_false_iff_not]
        omega
      · rintro hm (hs' | ⟨hm', _⟩)
        · have := hI.stable _ hs'; simp at this
        · rw [hm] at hm'; cases hm'
      · intro hm; exact .inr ⟨hm, rfl⟩
    · rw [hother i hi] at h
      exact (hI.row i l es' z' m h h2).mono hp hs (hb.block _ (hI.live i l h).2.1) (hS2 _ (hI.live i l h).2.1)
  · intro i l es' h h2
    by_cases hi : i = id
    · subst hi; rw [hH] at h2; cases h2
    · rw [hother i hi] at h
      obtain ⟨h3, ents, clock, h4, h5⟩ := hI.map i l es' h h2
      exact ⟨fun hx => h3 (hS2 _ (hI.live i l h).2.1 hx), ents, clock, by rw [hb.block _ (hI.live i l h).2.1]; exact h4, VM.mono hp hs _ _ h5⟩
  · intro i j l l' m m' hij h h' hm hm' ha ha'
    by_cases hi : i = id
    · subst hi
      rw [hid] at h; cases h
      rw [hother j (fun e => hij e.symm)] at h'
      have := (hI.live j l' h').2.1
      show w.heap.size ≠ l'.b
      omega
    · by_cases hj : j = id
      · subst hj
        rw [hid] at h'; cases h'
        rw [hother i hi] at h
        have := (hI.live i l h).2.1
        show l.b ≠ w.heap.size
        omega
      · rw [hother i hi] at h; rw [hother j hj] at h'
        exact hI.apart i j l l' m m' hij h h' hm hm' ha ha'
  · rintro b (h | ⟨_, rfl⟩)
    · exact Nat.lt_of_lt_of_le (hI.stable b h) hb.size
    · exact hlt

theorem Inv.addMap {w' : World} {id : Nat} {clock : Nat} (hI : Inv φ H w S B) (hb : Below w.heap.size w w') (hφ : φ id = none) (hH : H[id]? = some (.map []))
    (hnew : w'.heap[w.heap.size]? = some (.map #[] clock)) :
    ∃ φ' S', Inv φ' H w' S' B ∧ Evo H.length B φ S w φ' S' w' ∧ φ' id = some ⟨w.heap.size, 0, 0, 0⟩ ∧ (∀ i, i ≠ id → φ' i = φ i) := by
  have hlt : w.heap.size < w'.heap.size := by
    rcases Nat.lt_or_ge w.heap.size w'.heap.size with h | h
    · exact h
    · rw [Array.getElem?_eq_none h] at hnew; cases hnew
  have hidlt : id < H.length := (List.getElem?_eq_some_iff.1 hH).1
  let φ' : Phi := fun i => if i = id then some ⟨w.heap.size, 0, 0, 0⟩ else φ i
  have hp : ∀ i l, φ i = some l → φ' i = some l := by
    intro i l h
    show (if i = id then _ else φ i) = _
    rw [if_neg]
    · exact h
    · rintro rfl; rw [hφ] at h; cases h
  have hs : ∀ b, S b → S b ∧ w'.heap[b]? = w.heap[b]? := fun b h => ⟨h, hb.block b (hI.stable b h)⟩
  have hid : φ' id = some ⟨w.heap.size, 0, 0, 0⟩ := if_pos rfl
  have hother : ∀ i, i ≠ id → φ' i = φ i := fun i h => if_neg h
  refine ⟨φ', S, ⟨?_, ?_, ?_, ?_, ?_, Nat.le_trans hI.base hb.size⟩, ⟨fun i l _ h => hp i l h, hs, fun _ _ h => h, hb.mono hI.base⟩, hid, hother⟩
  · intro i l h
    by_cases hi : i = id
    · subst hi; rw [hid] at h; cases h; exact ⟨hI.base, hlt, hidlt⟩
    · rw [hother i hi] at h
      have := hI.live i l h
      exact ⟨this.1, Nat.lt_of_lt_of_le this.2.1 hb.size, this.2.2⟩
  · intro i l es' z' m h h2
    by_cases hi : i = id
    · subst hi; rw [hH] at h2; cases h2
    · rw [hother i hi] at h
      exact (hI.row i l es' z' m h h2).mono hp hs (hb.block _ (hI.live i l h).2.1) fun x => x
  · intro i l es' h h2
    by_cases hi : i = id
    · subst hi
      rw [hid] at h; cases h
      rw [hH] at h2; cases h2
      exact ⟨fun hx => by have := hI.stable _ hx; simp at this, #[], clock, hnew, rfl⟩
    · rw [hother i hi] at h
      obtain ⟨h3, ents, clock, h4, h5⟩ := hI.map i l es' h h2
      exact ⟨h3, ents, clock, by rw [hb.block _ (hI.live i l h).2.1]; exact h4, VM.mono hp hs _ _ h5⟩
  · intro i j l l' m m' hij h h' hm hm' ha ha'
    by_cases hi : i = id
    · subst hi
      rw [hid] at h; cases h
      rw [hother j (fun e => hij e.symm)] at h'
      have := (hI.live j l' h').2.1
      show w.heap.size ≠ l'.b
      omega
    · by_cases hj : j = id
      · subst hj
        rw [hid] at h'; cases h'
        rw [hother i hi] at h
        have := (hI.live i l h).2.1
        show l.b ≠ w.heap.size
        omega
      · rw [hother i hi] at h; rw [hother j hj] at h'
        exact hI.apart i j l l' m m' hij h h' hm hm' ha ha'
  · exact fun b h => Nat.lt_of_lt_of_le (hI.stable b h) hb.size

theorem below_alloc (w : World) (o : Obj) : Below w.heap.size w (w.alloc o) := (Below.refl _ _).alloc (Nat.le_refl _) o
theorem below_drew_alloc (w : World) (o : Obj) : Below w.heap.size w (w.drew.alloc o) := ((Below.refl _ _).drew).alloc (Nat.le_refl _) o
theorem heap_alloc_at (w : World) (o : Obj) : (w.alloc o).heap[w.heap.size]? = some o := heap_alloc_new w o
theorem heap_drew_alloc_at (w : World) (o : Obj) : (w.drew.alloc o).heap[w.heap.size]? = some o := heap_alloc_new w.drew o

end
end Go.Am
