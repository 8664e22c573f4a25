/-
  Writing into own memory.
-/
import Derived.Test.YtcclbkkgpcpikaaAm10
set_option linter.unusedSimpArgs false
set_option linter.unusedVariables false
namespace Go.Am
open Go.RowKit

section
variable {P : Program} {h : Hints} {E : Ev} {w : World} {φ : Phi} {S : Nat → Prop} {B : Nat} {H : List Mem}

/-! cells set one by one -/
theorem setCells_size (b : Nat) : ∀ (vs : List Value) (o : Nat) (w : World), (w.setCells b o vs).heap.size = w.heap.size
  | [], _, _ => rfl
  | v :: r, o, w => by rw [World.setCells, setCells_size b r]; simp
theorem setCells_streams (b : Nat) : ∀ (vs : List Value) (o : Nat) (w : World), (w.setCells b o vs).os = w.os ∧ (w.setCells b o vs).tape = w.tape ∧ (w.setCells b o vs).output = w.output
  | [], _, _ => ⟨rfl, rfl, rfl⟩
  | v :: r, o, w => by rw [World.setCells]; exact setCells_streams b r (o + 1) _
theorem setCells_other (b : Nat) : ∀ (vs : List Value) (o : Nat) (w : World) (k : Nat), k ≠ b → (w.setCells b o vs).heap[k]? = w.heap[k]?
  | [], _, _, _, _ => rfl
  | v :: r, o, w, k, hk => by
    rw [World.setCells, setCells_other b r (o + 1) _ k hk]
    exact Below.heap_setCell w ⟨b, o, none⟩ v k hk
theorem setCells_block (b : Nat) : ∀ (vs : List Value) (o : Nat) (w : World) (cur : Array Value) (e : TypeId) (fz : Nat × Nat), w.heap[b]? = some (.cells cur e fz) → ∃ cur', (w.setCells b o vs).heap[b]? = some (.cells cur' e fz) ∧ cur'.size = cur.size
  | [], _, _, cur, _, _, h => ⟨cur, h, rfl⟩
  | v :: r, o, w, cur, e, fz, h => by
    rw [World.setCells]
    have hs : (w.setCell ⟨b, o, none⟩ v).heap[b]? = some (.cells (cur.setIfInBounds o v) e fz) := by
      simp [World.setCell, Array.getElem?_modify, h]
    obtain ⟨cur', h1, h2⟩ := setCells_block b r (o + 1) _ _ e fz hs
    exact ⟨cur', h1, by simpa using h2⟩

/-- Cells outside what was written. -/
theorem VC.keep {φ' : Phi} {b o' : Nat} {vs : List Value} (hp : ∀ id l, φ id = some l → φ' id = some l) (hs : ∀ k, S k → S k ∧ (w.setCells b o' vs).heap[k]? = w.heap[k]?) :
    ∀ (l : List PV) (o : Nat), (o + l.length ≤ o' ∨ o' + vs.length ≤ o) → VC φ w S l b o → VC φ' (w.setCells b o' vs) S l b o
  | [], _, _, _ => trivial
  | p :: ps, o, hd, h => by
    obtain ⟨⟨h1, v, hv, hr⟩, ht⟩ := h
    simp only [List.length_cons] at hd
    refine ⟨⟨h1, v, ?_, VRel.mono hp hs p v hr⟩, VC.keep hp hs ps (o + 1) (by omega) ht⟩
    rw [World.cell?_setCells_out b vs o' w ⟨b, o, none⟩ (fun _ _ => by show o < o' ∨ o' + vs.length ≤ o; omega)]
    exact hv
theorem VC.fresh {φ' : Phi} {b o : Nat} {cs : List PV} {vs : List Value} (hp : ∀ id l, φ id = some l → φ' id = some l) (hs : ∀ k, S k → S k ∧ (w.setCells b o vs).heap[k]? = w.heap[k]?) (hv : VL φ w S cs vs) (h1 : ∀ c ∈ cs, oneP c = true)
    (hc : ∀ j, j < vs.length → (w.cell? ⟨b, o + j, none⟩).isSome = true) : VC φ' (w.setCells b o vs) S cs b o := by
  refine VC.of_vals (VL.mono hp hs _ _ hv) h1 fun j v hj => ?_
  obtain ⟨hlt, hv⟩ := List.getElem?_eq_some_iff.1 hj
  rw [World.cell?_setCells_in b vs o w hc j hlt, hv]
theorem VC.spliced {φ' : Phi} {b o k : Nat} {xs cs : List PV} {vs : List Value} (hp : ∀ id l, φ id = some l → φ' id = some l) (hs : ∀ j, S j → S j ∧ (w.setCells b (o + k) vs).heap[j]? = w.heap[j]?) (hx : VC φ w S xs b o) (hv : VL φ w S cs vs) (h1 : ∀ c ∈ cs, oneP c = true)
    (hk : k + cs.length ≤ xs.length) (hc : ∀ j, j < vs.length → (w.cell? ⟨b, o + k + j, none⟩).isSome = true) : VC φ' (w.setCells b (o + k) vs) S (splice xs k cs) b o := by
  have hl := VL.length hv
  unfold splice
  refine VC.append (VC.keep hp hs _ _ (.inl (by rw [List.length_take]; omega)) (VC.take k hx)) (VC.append ?_ ?_)
  · rw [List.length_take, Nat.min_eq_left (by omega)]
    exact VC.fresh hp hs hv h1 hc
  · rw [List.length_take, Nat.min_eq_left (by omega)]
    refine VC.keep hp hs _ _ (.inr (by omega)) ?_
    rw [Nat.add_assoc]
    exact VC.drop _ (by omega) hx

/-- One own row is laid, or laid anew, in a block that nobody else reads. -/
theorem Inv.patch {w' : World} {id : Nat} {l : Loc} {es' : List (List PV)} {z : Nat} {φ' : Phi} {H' : List Mem} (hI : Inv φ H w S B) (hid : φ' id = some l) (hother : ∀ i, i ≠ id → φ' i = φ i) (hphi : φ id = none ∨ φ id = some l)
    (hH : H'[id]? = some (.row es' z true)) (hHo : ∀ i l', i ≠ id → φ i = some l' → H'[i]? = H[i]? ∨ H'[i]? = some .dead) (hlen : H.length ≤ H'.length)
    (hstr : w'.os = w.os ∧ w'.tape = w.tape ∧ w'.output = w.output) (hsz : w'.heap.size = w.heap.size) (hblk : ∀ b, b ≠ l.b → w'.heap[b]? = w.heap[b]?) (hS : ¬ S l.b) (hB : B ≤ l.b) (hlt : l.b < w.heap.size)
    (hap : ∀ j lj m, j ≠ id → φ j = some lj → H'[j]? = some m → m.alive = true → lj.b ≠ l.b) (hrow : RowAt φ' w' S l es' z true) : Inv φ' H' w' S B ∧ Evo H.length B φ S w φ' S w' := by
  have hp : ∀ i x, φ i = some x → φ' i = some x := by
    intro i x hx
    by_cases hi : i = id
    · subst hi
      rcases hphi with hn | hn
      · rw [hn] at hx; cases hx
      · rw [hn] at hx; rw [hid]; exact hx
    · rw [hother i hi]; exact hx
  have hs : ∀ b, S b → S b ∧ w'.heap[b]? = w.heap[b]? := fun b hb => ⟨hb, hblk b (by rintro rfl; exact hS hb)⟩
  have hidl : id < H'.length := (List.getElem?_eq_some_iff.1 hH).1
  refine ⟨⟨?_, ?_, ?_, ?_, fun b hb => by rw [hsz]; exact hI.stable b hb, by rw [hsz]; exact hI.base⟩, fun i x _ h => hp i x h, hs, fun _ _ hx => hx, hstr.1, hstr.2.1, hstr.2.2, by rw [hsz]; exact Nat.le_refl _, fun k hk => hblk k (by omega)⟩
  · intro i x hx
    by_cases hi : i = id
    · subst hi; rw [hid] at hx; cases hx; exact ⟨hB, by rw [hsz]; exact hlt, hidl⟩
    · rw [hother i hi] at hx
      have := hI.live i x hx
      exact ⟨this.1, by rw [hsz]; exact this.2.1, by omega⟩
  · intro i x es z' m hx hm
    by_cases hi : i = id
    · subst hi
      rw [hid] at hx; cases hx
      rw [hH] at hm; cases hm
      exact hrow
    · rw [hother i hi] at hx
      rcases hHo i x hi hx with he | he
      · rw [he] at hm
        have hne := hap i x _ hi hx (by rw [he]; exact hm) rfl
        exact (hI.row i x es z' m hx hm).mono hp hs (hblk _ hne) (fun y => y)
      · rw [he] at hm; cases hm
  · intro i x es hx hm
    by_cases hi : i = id
    · subst hi; rw [hH] at hm; cases hm
    · rw [hother i hi] at hx
      rcases hHo i x hi hx with he | he
      · rw [he] at hm
        have hne := hap i x _ hi hx (by rw [he]; exact hm) rfl
        obtain ⟨h3, ents, clock, h4, h5⟩ := hI.map i x es hx hm
        exact ⟨h3, ents, clock, by rw [hblk _ hne]; exact h4, VM.mono hp hs _ _ h5⟩
      · rw [he] at hm; cases hm
  · intro i j x y m m' hij hx hy hm hm' ha ha'
    by_cases hi : i = id
    · subst hi
      rw [hid] at hx; cases hx
      rw [hother j (fun e => hij e.symm)] at hy
      exact fun e => hap j y m' (fun e => hij e.symm) hy hm' ha' e.symm
    · by_cases hj : j = id
      · subst hj
        rw [hid] at hy; cases hy
        rw [hother i hi] at hx
        exact hap i x m hi hx hm ha
      · rw [hother i hi] at hx; rw [hother j hj] at hy
        have e1 : H[i]? = some m := by
          rcases hHo i x hi hx with he | he
          · rw [← he]; exact hm
          · rw [he] at hm; cases hm; simp [Mem.alive] at ha
        have e2 : H[j]? = some m' := by
          rcases hHo j y hj hy with he | he
          · rw [← he]; exact hm'
          · rw [he] at hm'; cases hm'; simp [Mem.alive] at ha'
        exact hI.apart i j x y m m' hij hx hy e1 e2 ha ha'

/-- Own members are given up, or there are more numbers. -/
theorem Inv.reheap {H' : List Mem} (hI : Inv φ H w S B) (hHo : ∀ i l', φ i = some l' → H'[i]? = H[i]? ∨ H'[i]? = some .dead) (hlen : H.length ≤ H'.length) : Inv φ H' w S B where
  live := fun i x hx => by have := hI.live i x hx; exact ⟨this.1, this.2.1, by omega⟩
  row := by
    intro i x es z m hx hm
    rcases hHo i x hx with he | he
    · rw [he] at hm; exact hI.row i x es z m hx hm
    · rw [he] at hm; cases hm
  map := by
    intro i x es hx hm
    rcases hHo i x hx with he | he
    · rw [he] at hm; exact hI.map i x es hx hm
    · rw [he] at hm; cases hm
  apart := by
    intro i j x y m m' hij hx hy hm hm' ha ha'
    have e1 : H[i]? = some m := by
      rcases hHo i x hx with he | he
      · rw [← he]; exact hm
      · rw [he] at hm; cases hm; simp [Mem.alive] at ha
    have e2 : H[j]? = some m' := by
      rcases hHo j y hy with he | he
      · rw [← he]; exact hm'
      · rw [he] at hm'; cases hm'; simp [Mem.alive] at ha'
    exact hI.apart i j x y m m' hij hx hy e1 e2 ha ha'
  stable := hI.stable
  base := hI.base

/-- The cells of an own row are there, and may be written. -/
theorem row_cells {l : Loc} {es : List (List PV)} {z : Nat} (hr : RowAt φ w S l es z true) (k : Nat) (hk : k < l.top) : (w.cell? ⟨l.b, l.o + k, none⟩).isSome = true ∧ w.frozen? ⟨l.b, l.o + k, none⟩ = false := by
  obtain ⟨cur, e, fz, h1, h2, h3⟩ := hr.blk
  refine ⟨?_, h3 rfl _ (by omega)⟩
  simp only [World.cell?, h1]
  simp [show l.o + k < cur.size from by omega]

/-- A row whose cells were set from place k on. -/
theorem RowAt.set {φ' : Phi} {l : Loc} {es es' : List (List PV)} {z k : Nat} {cs : List PV} {vs : List Value} (hr : RowAt φ w S l es z true) (hp : ∀ id l, φ id = some l → φ' id = some l) (he : es'.flatten = splice es.flatten k cs) (hw : ∀ x ∈ es', x.length = z) (hl : es'.length = es.length)
    (hv : VL φ w S cs vs) (h1 : ∀ c ∈ cs, oneP c = true) (hk : k + cs.length ≤ es.flatten.length) : RowAt φ' (w.setCells l.b (l.o + k) vs) S l es' z true where
  zs := hr.zs
  top := by rw [hl]; exact hr.top
  wid := hw
  cells := by
    have hs : ∀ j, S j → S j ∧ (w.setCells l.b (l.o + k) vs).heap[j]? = w.heap[j]? := fun j hj => ⟨hj, setCells_other _ _ _ _ _ (by rintro rfl; exact hr.own rfl hj)⟩
    refine VE.of_flat ?_
    rw [he]
    have hfl := flatten_len es hr.wid
    have htop := hr.top
    refine VC.spliced hp hs (VE.flat hr.cells) hv h1 hk fun j hj => ?_
    have := VL.length hv
    rw [Nat.add_assoc]
    exact (row_cells hr (k + j) (by omega)).1
  blk := by
    obtain ⟨cur, e, fz, h1, h2, h3⟩ := hr.blk
    obtain ⟨cur', h4, h5⟩ := setCells_block l.b vs (l.o + k) w cur e fz h1
    exact ⟨cur', e, fz, h4, by omega, fun hm j hj => by rw [World.frozen?_setCells]; exact h3 hm j (by omega)⟩
  own := hr.own
  frz := fun h => by cases h

theorem vals_one {cs : List PV} {vs : List Value} (hv : VL φ w S cs vs) (h1 : ∀ c ∈ cs, oneP c = true) : ∀ v ∈ vs, v.oneCell' = true := by
  induction cs generalizing vs with
  | nil => simp only [VL] at hv; subst hv; simp
  | cons c cs ih =>
    simp only [VL] at hv
    obtain ⟨v, r, rfl, h2, h3⟩ := hv
    intro x hx
    rcases List.mem_cons.1 hx with rfl | hx
    · exact oneP_val (h1 c List.mem_cons_self) h2
    · exact ih h3 (fun y hy => h1 y (List.mem_cons_of_mem _ hy)) x hx

theorem splice_right {α : Type} (A L : List α) (k : Nat) (X : List α) : splice (A ++ L) (A.length + k) X = A ++ splice L k X := by
  unfold splice
  rw [List.take_length_add_append, Nat.add_assoc, List.drop_length_add_append, List.append_assoc]
theorem splice_left {α : Type} (C D : List α) (r : Nat) (X : List α) (h : r + X.length ≤ C.length) : splice (C ++ D) r X = splice C r X ++ D := by
  unfold splice
  rw [List.take_append_of_le_length (by omega), List.drop_append_of_le_length (by omega)]
  simp
theorem flatten_set_in {z : Nat} {r : Nat} {X : List PV} : ∀ (es : List (List PV)) (i : Nat) (c : List PV), (∀ x ∈ es, x.length = z) → es[i]? = some c → r + X.length ≤ c.length → (es.set i (splice c r X)).flatten = splice es.flatten (i * z + r) X
  | [], i, c, _, h, _ => by simp at h
  | e :: es, 0, c, hz, h, hr => by
    simp at h; subst h
    simp only [List.set_cons_zero, List.flatten_cons, Nat.zero_mul, Nat.zero_add]
    rw [splice_left _ _ _ _ hr]
  | e :: es, i + 1, c, hz, h, hr => by
    have he : e.length = z := hz e List.mem_cons_self
    simp only [List.set_cons_succ, List.flatten_cons]
    rw [flatten_set_in es i c (fun x hx => hz x (List.mem_cons_of_mem _ hx)) (by simpa using h) hr]
    rw [show (i + 1) * z + r = e.length + (i * z + r) from by rw [Nat.add_mul, he]; omega, splice_right]

theorem storeH_sound {t : TypeId} {p v : PV} {H' : List Mem} {ad x : Value} (hI : Inv φ H w S B) (hs : storeH P H t p v = some H') (hp : VRel φ w S p ad) (hx : VRel φ w S v x) (hn : ∀ vs, v ≠ .tup vs) :
    ∃ w', (Instr.storeAt t ad x).run P w = .ok () w' ∧ Inv φ H' w' S B ∧ Evo H.length B φ S w φ S w' := by
  unfold storeH at hs
  split at hs
  · rename_i id i r
    split at hs
    · rename_i es z hm
      obtain ⟨c, hc, hs⟩ := bind1 hs
      obtain ⟨n, hn1, hs⟩ := bind1 hs
      obtain ⟨⟨hlen, hle⟩, hs⟩ := if_some hs
      cases hs
      simp only [VRel] at hp
      obtain ⟨l, hl, rfl⟩ := hp
      have hr := hI.row id l es z true hl hm
      obtain ⟨hv, ho⟩ := cells_sound hx hn
      have hvl := VL.length hv
      have hi : i < es.length := (List.getElem?_eq_some_iff.1 hc).1
      have hcz : c.length = z := hr.wid c (List.mem_of_getElem? hc)
      have hfl := flatten_len es hr.wid
      have hin : i * z + z ≤ es.length * z := by rw [← Nat.succ_mul]; exact Nat.mul_le_mul_right _ hi
      have htop := hr.top
      have hle' : r + (cellsOf v).length ≤ c.length := by omega
      have hfs : (es.set i (splice c r (cellsOf v))).flatten = splice es.flatten (i * z + r) (cellsOf v) := flatten_set_in es i c hr.wid hc hle'
      refine ⟨w.setCells l.b (l.o + (i * z + r)) x.cells.toList, ?_, ?_⟩
      · have hst := run_storeCells_cells (P := P) l.b (l.o + (i * z + r)) x.cells.toList 0 w
          (fun j hj => by rw [show l.o + (i * z + r) + 0 + j = l.o + (i * z + r + j) from by omega]; exact (row_cells hr _ (by omega)).1)
          (fun j hj => by rw [show l.o + (i * z + r) + 0 + j = l.o + (i * z + r + j) from by omega]; exact (row_cells hr _ (by omega)).2) (vals_one hv ho)
        have hsz : x.cells.size = n := by simpa [hlen] using hvl
        simp only [Instr.storeAt, Instr.sureAddr, Sem.run_bind, Sem.run_pure, Result.andThen_ok, storeVar, run_sizeOf' hn1, hsz, ne_eq, not_true_eq_false, if_false]
        rw [hr.zs, Nat.add_assoc]
        exact hst
      · refine hI.patch (id := id) (l := l) (es' := es.set i (splice c r (cellsOf v))) (z := z) hl (fun _ _ => rfl) (.inr hl) (by simp [(hI.live id l hl).2.2]) ?_ (by simp) (setCells_streams _ _ _ _) (setCells_size _ _ _ _) (fun b hb => setCells_other _ _ _ _ _ hb)
          (hr.own rfl) (hI.live id l hl).1 (hI.live id l hl).2.1 ?_ (hr.set (fun _ _ h => h) hfs ?_ (by simp) hv ho ?_)
        · intro j l' hj _; exact .inl (by rw [List.getElem?_set_ne (fun e => hj e.symm)])
        · intro j lj m hj hlj hmj ha
          rw [List.getElem?_set_ne (fun e => hj e.symm)] at hmj
          exact hI.apart j id lj l m _ hj hlj hl hmj hm ha rfl
        · intro y hy
          rcases List.mem_or_eq_of_mem_set hy with hy | rfl
          · exact hr.wid y hy
          · rw [splice_length _ _ _ (by omega)]; exact hcz
        · omega
    · cases hs
  · cases hs

end
end Go.Am
