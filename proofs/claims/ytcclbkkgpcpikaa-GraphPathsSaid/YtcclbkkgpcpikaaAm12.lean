/-
  append, copy, clear, maps.
-/
import Derived.Test.YtcclbkkgpcpikaaAm11
set_option linter.unusedSimpArgs false
set_option linter.unusedVariables false
namespace Go.Am
open Go.RowKit

section
variable {P : Program} {h : Hints} {E : Ev} {w : World} {φ : Phi} {S : Nat → Prop} {B : Nat} {H : List Mem}

theorem VE.blk_lt {l : List (List PV)} {b o : Nat} (hv : VE φ w S l b o) (hne : l.flatten ≠ []) : b < w.heap.size := by
  have := VE.flat hv
  cases hf : l.flatten with
  | nil => exact absurd hf hne
  | cons p ps =>
    rw [hf] at this
    obtain ⟨⟨_, v, hc, _⟩, _⟩ := this
    exact World.block_lt_of_cell? w _ hc

theorem headOk_wid {es : List (List PV)} {z z' : Nat} (hh : headOk es z = true) (hw : ∀ x ∈ es, x.length = z') : ∀ x ∈ es, x.length = z := by
  cases es with
  | nil => simp
  | cons c r =>
    simp only [headOk, beq_iff_eq] at hh
    have : z' = z := by rw [← hw c List.mem_cons_self]; exact hh
    subst this; exact hw

theorem VL.det_take {l : List PV} {vs : List Value} (n : Nat) (h : VL φ w S l vs) : VL φ w S (l.take n) (vs.take n) := VL.take n h

theorem srcOf_sound {x : PV} {new : List (List PV)} {X : Value} {z : Nat} (hI : Inv φ H w S B) (hs : srcOf H x = some new) (hx : VRel φ w S x X) (hz : headOk new z = true) :
    (∀ w', (Builtin.lenOf X).run P w' = .ok new.length w') ∧ (∀ y ∈ new, y.length = z) ∧ ∃ vals, VL φ w S new.flatten vals ∧ (∀ c ∈ new.flatten, oneP c = true) ∧
      ∀ (w' : World) (k : Nat), k ≤ new.length → (∀ b, b < w.heap.size → w'.heap[b]? = w.heap[b]?) → (Builtin.firstCells z k X).run P w' = .ok (vals.take (k * z)).toArray w' := by
  have slices : ∀ es, elems H x = some es → new = es → (∀ w', (Builtin.lenOf X).run P w' = .ok new.length w') ∧ (∀ y ∈ new, y.length = z) ∧ ∃ vals, VL φ w S new.flatten vals ∧ (∀ c ∈ new.flatten, oneP c = true) ∧
      ∀ (w' : World) (k : Nat), k ≤ new.length → (∀ b, b < w.heap.size → w'.heap[b]? = w.heap[b]?) → (Builtin.firstCells z k X).run P w' = .ok (vals.take (k * z)).toArray w' := by
    intro es hes hne
    subst hne
    obtain ⟨a, c, rfl, hle, hc⟩ := elems_sound hI hes hx
    refine ⟨fun w' => rfl, ?_, ?_⟩
    · rcases hc with rfl | ⟨b, o, z', _, hw, _⟩
      · simp
      · exact headOk_wid hz hw
    · rcases hc with rfl | ⟨b, o, z', rfl, hw, hv⟩
      · refine ⟨[], by simp [VL], by simp, fun w' k hk _ => ?_⟩
        have : k = 0 := by simpa using hk
        subst this
        cases a <;> simp [Builtin.firstCells, loadCells, loadCellsFrom]
      · obtain ⟨vs, h1, h2, h3⟩ := VC.vals (VE.flat hv)
        refine ⟨vs, h1, h2, fun w' k hk hb => ?_⟩
        have hlen : vs.length = new.length * z := by rw [VL.length h1, flatten_len new (headOk_wid hz hw)]
        have hkl : (vs.take (k * z)).length = k * z := by rw [List.length_take, hlen]; exact Nat.min_eq_left (Nat.mul_le_mul_right _ hk)
        have := run_loadCells_list (P := P) w' ⟨b, o, none⟩ (vs.take (k * z)) (fun j v hj => by
          rw [Addr.add_lit]
          have hj' : vs[j]? = some v := by
            rw [List.getElem?_take] at hj
            split at hj
            · exact hj
            · cases hj
          have hcell := h3 j v hj'
          rw [cell_of_blk (hb b (World.block_lt_of_cell? w _ hcell))]
          exact hcell)
        rw [hkl] at this
        simpa [Builtin.firstCells] using this
  unfold srcOf at hs
  split at hs
  · rename_i b
    cases hs
    simp only [VRel] at hx; subst hx
    have hlen : (byteCells b).length = b.size := by simp [byteCells]
    refine ⟨fun w' => by rw [hlen]; rfl, headOk_wid (z' := 1) hz (by intro y hy; simp only [byteCells, List.mem_map] at hy; obtain ⟨q, _, rfl⟩ := hy; rfl), (b.data.toList.map fun q => (q.toNat : Int)).map (Value.int .u8), ?_, ?_, ?_⟩
    · have hf : (byteCells b).flatten = (b.data.toList.map fun q => (q.toNat : Int)).map (PV.int .u8) := by
        simp only [byteCells]
        rw [flatten_single (fun q : UInt8 => PV.int .u8 q.toNat), List.map_map]; rfl
      rw [hf]; exact VL_ints _
    · intro c hc
      simp only [byteCells, List.mem_flatten, List.mem_map] at hc
      obtain ⟨l, ⟨q, _, rfl⟩, hc⟩ := hc
      simp at hc; subst hc; rfl
    · intro w' k hk _
      have hz1 : b.size = 0 ∨ z = 1 := by
        cases hd : byteCells b with
        | nil => left; rw [← hlen, hd]; rfl
        | cons c r =>
          right
          rw [hd] at hz
          simp only [headOk, beq_iff_eq] at hz
          have : c ∈ byteCells b := by rw [hd]; exact List.mem_cons_self
          simp only [byteCells, List.mem_map] at this
          obtain ⟨q, _, rfl⟩ := this
          exact hz.symm
      have hkz : k * z = k := by
        rcases hz1 with h0 | rfl
        · have : k = 0 := by omega
          subst this; simp
        · simp
      rw [hkz]
      simp only [Builtin.firstCells, Sem.run_pure]
      congr 1
      apply Array.ext'
      simp [ByteArray.data_extract, Array.toList_extract, List.extract_eq_take_drop, List.map_take]
      rfl
  · exact slices new hs rfl

theorem notIntT_cases {t : Option TypeId} (hn : notIntT P t = true) : t = none ∨ ∃ t1 d, t = some t1 ∧ P.underlying t1 = some d ∧ ∀ k, d ≠ .int k := by
  cases t with
  | none => exact .inl rfl
  | some t =>
    right
    simp only [notIntT] at hn
    cases hu : P.underlying t with
    | none => simp [hu] at hn
    | some d =>
      refine ⟨t, d, rfl, hu, ?_⟩
      rintro k rfl
      simp [hu] at hn

/-- 'append' within the capacity. -/
theorem append_fits {ts : Array TypeId} {ty t e : TypeId} {z n sLen sCap : Nat} {base : Option Addr} {xv : Value} {vals : List Value} {w' : World} (ht : ts[0]? = some t) (hu : P.underlying t = some (.slice e)) (hz : tsize P e = some z) (hn : notIntT P (ts[1]?) = true)
    (hlen : ∀ w', (Builtin.lenOf xv).run P w' = .ok n w') (hfc : (Builtin.firstCells z n xv).run P w = .ok vals.toArray w) (hfit : sLen + n ≤ sCap)
    (hst : (match base with | some a => storeCells (a.add (sLen * z)) vals | none => pure () : Sem Unit).run P w = .ok () w') :
    (Builtin.append_ ts ty #[.slice base sLen sCap, xv]).run P w = .ok (.slice base (sLen + n) sCap) w' := by
  have ha0 : (#[Value.slice base sLen sCap, xv] : Array Value)[0]? = some (.slice base sLen sCap) := rfl
  have ha1 : (#[Value.slice base sLen sCap, xv] : Array Value)[1]? = some xv := rfl
  unfold Builtin.append_
  simp only [ht, ha0, ha1, Sem.run_bind, run_underlying hu, Result.andThen_ok, run_sizeOf' hz]
  have fin : ∀ s : Sem Unit, s.run P w = .ok () w' → (do s; pure (Value.slice base (sLen + n) sCap) : Sem Value).run P w = .ok (.slice base (sLen + n) sCap) w' := by
    intro s hs; simp [hs]
  rcases notIntT_cases hn with h1 | ⟨t1, d, h1, hu1, hd⟩
  · simp only [h1, Sem.run_bind, Sem.run_pure, Result.andThen_ok, Bool.false_eq_true, if_false, if_true, hlen, Bool.not_false, hfc, if_pos hfit]
    cases base with
    | none => simp only [Sem.run_pure] at hst ⊢; cases hst; rfl
    | some a => simp only [Sem.run_bind, List.toList_toArray] at hst ⊢; rw [hst]; rfl
  · simp only [h1, Sem.run_bind, run_underlying hu1, Result.andThen_ok]
    have hbody : ∀ b : Bool, b = false → (pure b : Sem Bool).run P w = .ok false w := by rintro _ rfl; rfl
    cases d <;> first
      | exact absurd rfl (hd _)
      | (simp only [Sem.run_bind, Sem.run_pure, Result.andThen_ok, Bool.false_eq_true, if_false, if_true, hlen, Bool.not_false, hfc, if_pos hfit]
         cases base with
         | none => simp only [Sem.run_pure] at hst ⊢; cases hst; rfl
         | some a => simp only [Sem.run_bind, List.toList_toArray] at hst ⊢; rw [hst]; rfl)

/-- 'append' that grows. -/
theorem append_grows {ts : Array TypeId} {ty t e : TypeId} {z by_ n sLen sCap : Nat} {base : Option Addr} {xv zv : Value} {olds vals : List Value} {i : TypeInfo} (ht : ts[0]? = some t) (hu : P.underlying t = some (.slice e)) (hi : P.info? e = some i) (hz : i.size = z) (hby : i.bytes = by_)
    (hzv : i.zero = some zv) (hn : notIntT P (ts[1]?) = true)
    (hlen : ∀ w', (Builtin.lenOf xv).run P w' = .ok n w') (hfc : (Builtin.firstCells z n xv).run P w.drew = .ok vals.toArray w.drew) (hfo : (Builtin.firstCells z sLen (.slice base sLen sCap)).run P w.drew = .ok olds.toArray w.drew) (hfit : sCap < sLen + n)
    (hby0 : 0 < by_) (hb : (sLen + n) * by_ ≤ 140737488355328) :
    (Builtin.append_ ts ty #[.slice base sLen sCap, xv]).run P w = .ok (.slice (some ⟨w.heap.size, 0, none⟩) (sLen + n) (grownCap w (sLen + n) sCap e))
      (w.drew.alloc (.cells (olds.toArray ++ vals.toArray ++ Builtin.zeroCells zv.cells (grownCap w (sLen + n) sCap e - (sLen + n))) e)) := by
  have ha0 : (#[Value.slice base sLen sCap, xv] : Array Value)[0]? = some (.slice base sLen sCap) := rfl
  have ha1 : (#[Value.slice base sLen sCap, xv] : Array Value)[1]? = some xv := rfl
  have hsz : (sizeOf e).run P w = .ok z w := by simp [sizeOf, typeInfo, hi, hz]
  have hti : ∀ w, (typeInfo e).run P w = .ok i w := by intro w; simp [typeInfo, hi]
  have hzr : ∀ w, (zeroValue e).run P w = .ok zv w := by intro w; simp [zeroValue, typeInfo, hi, hzv]
  have hnfit : ¬ sLen + n ≤ sCap := by omega
  have hbz : ¬ i.bytes = 0 := by omega
  have hgrow : ¬ Builtin.nextslicecap (sLen + n) sCap * i.bytes > 2 ^ 48 := by
    have := growslice_fits (need := sLen + n) (old := sCap) (bytes := by_) (by omega) hb
    rw [hby]
    have e : (2:Nat) ^ 48 = 281474976710656 := by decide
    omega
  have hch : (choose (.appendCap (sLen + n) sCap e)).run P w = .ok (grownCap w (sLen + n) sCap e) w.drew := by
    rw [run_choose]; rfl
  unfold Builtin.append_
  simp only [ht, ha0, ha1, Sem.run_bind, run_underlying hu, Result.andThen_ok, hsz]
  rcases notIntT_cases hn with h1 | ⟨t1, d, h1, hu1, hd⟩
  · simp only [h1, Sem.run_bind, Sem.run_pure, Result.andThen_ok, Bool.false_eq_true, if_false, if_true, hlen, Bool.not_false, if_neg hnfit, hti, hbz, or_self, and_false, if_neg hgrow, hch, run_askRoom, hfo, hfc, hzr, newRow, run_newObj]
    rfl
  · simp only [h1, Sem.run_bind, run_underlying hu1, Result.andThen_ok]
    cases d <;> first
      | exact absurd rfl (hd _)
      | (simp only [Sem.run_bind, Sem.run_pure, Result.andThen_ok, Bool.false_eq_true, if_false, if_true, hlen, Bool.not_false, if_neg hnfit, hti, hbz, or_self, and_false, if_neg hgrow, hch, run_askRoom, hfo, hfc, hzr, newRow, run_newObj]
         rfl)

theorem zeroCells_eq (z : Array Value) (n : Nat) : Builtin.zeroCells z n = madeCells z (n * z.size) := rfl
theorem size_zeroCells' (z : Array Value) (n : Nat) : (Builtin.zeroCells z n).size = n * z.size := by rw [zeroCells_eq, size_madeCells]

/-- The new row of an append that grows. -/
theorem append_new {e : TypeId} {z n sLen : Nat} {zv : Value} {id : Nat} {es : List (List PV)} {olds vals : List Value} (hI : Inv φ H w S B) (hφ : φ id = none) (hH : H[id]? = some (.row es z true)) (cap : Nat) (hcap : sLen + n ≤ cap)
    (hw : ∀ c ∈ es, c.length = z) (hl : es.length = sLen + n) (hv : VL φ w S es.flatten (olds ++ vals)) (h1 : ∀ c ∈ es.flatten, oneP c = true) (hzs : zv.cells.size = z) :
    ∃ φ' S', Inv φ' H (w.drew.alloc (.cells (olds.toArray ++ vals.toArray ++ Builtin.zeroCells zv.cells (cap - (sLen + n))) e)) S' B ∧ Evo H.length B φ S w φ' S' (w.drew.alloc (.cells (olds.toArray ++ vals.toArray ++ Builtin.zeroCells zv.cells (cap - (sLen + n))) e)) ∧
      VRel φ' (w.drew.alloc (.cells (olds.toArray ++ vals.toArray ++ Builtin.zeroCells zv.cells (cap - (sLen + n))) e)) S' (.ref id 0 (sLen + n) (sLen + n)) (.slice (some ⟨w.heap.size, 0, none⟩) (sLen + n) cap) := by
  have hlen : (olds ++ vals).length = (sLen + n) * z := by rw [VL.length hv, flatten_len es hw, hl]
  have hsize : (olds.toArray ++ vals.toArray ++ Builtin.zeroCells zv.cells (cap - (sLen + n))).size = cap * z := by
    simp only [Array.size_append, List.size_toArray, size_zeroCells', hzs]
    rw [List.length_append] at hlen
    rw [hlen, ← Nat.add_mul]; congr 1; omega
  obtain ⟨φ', S', h2, h3, h4, _⟩ := hI.add (fz := (0, 0)) (below_drew_alloc w (.cells (olds.toArray ++ vals.toArray ++ Builtin.zeroCells zv.cells (cap - (sLen + n))) e)) hφ hH (heap_drew_alloc_at w _) hw hv h1
    (by intro j v hj
        have : j < (olds ++ vals).length := (List.getElem?_eq_some_iff.1 hj).1
        rw [show olds.toArray ++ vals.toArray = (olds ++ vals).toArray from by simp, Array.getElem?_append_left (by simpa using this)]
        simpa using hj)
    (by rw [hl, hsize]; exact Nat.mul_le_mul_right _ hcap) (by intro j hj; simp)
  refine ⟨φ', S', h2, h3, ?_⟩
  simp only [VRel]
  exact ⟨_, _, cap, h4, rfl, Nat.le_refl _, hcap, .inr ⟨by simp, by simp only [Nat.zero_add]; exact Nat.le_of_eq hsize.symm⟩⟩

/-- A stretch of an own row is written. -/
theorem row_splice {id i : Nat} {es new : List (List PV)} {z : Nat} {l : Loc} {vals : List Value} (hI : Inv φ H w S B) (hl : φ id = some l) (hm : H[id]? = some (.row es z true)) (hw : ∀ c ∈ new, c.length = z) (hv : VL φ w S new.flatten vals) (ho : ∀ c ∈ new.flatten, oneP c = true)
    (hle : i + new.length ≤ es.length) :
    (storeCells ⟨l.b, l.o + i * z, none⟩ vals).run P w = .ok () (w.setCells l.b (l.o + i * z) vals) ∧ Inv φ (H.set id (.row (splice es i new) z true)) (w.setCells l.b (l.o + i * z) vals) S B ∧ Evo H.length B φ S w φ S (w.setCells l.b (l.o + i * z) vals) := by
  have hr := hI.row id l es z true hl hm
  have hnl := flatten_len new hw
  have hel := flatten_len es hr.wid
  have hvl : vals.length = new.length * z := by rw [VL.length hv, hnl]
  have htop := hr.top
  have hin : i * z + new.length * z ≤ es.length * z := by rw [← Nat.add_mul]; exact Nat.mul_le_mul_right _ hle
  have hsw : ∀ x ∈ splice es i new, x.length = z := fun x hx => (splice_mem hx).elim (hr.wid x) (hw x)
  have hsl : (splice es i new).length = es.length := splice_length _ _ _ hle
  have hfs : (splice es i new).flatten = splice es.flatten (i * z) new.flatten := by
    unfold splice
    rw [List.flatten_append, List.flatten_append, hnl]
    have ht : (es.take i).flatten = es.flatten.take (i * z) := by
      have h1 : es.flatten = (es.take i).flatten ++ (es.drop i).flatten := by rw [← List.flatten_append, List.take_append_drop]
      have h2 : (es.take i).flatten.length = i * z := by rw [flatten_len _ (fun x hx => hr.wid x (List.mem_of_mem_take hx)), List.length_take, Nat.min_eq_left (by omega)]
      rw [h1, ← h2, List.take_left' rfl]
    have hd : (es.drop (i + new.length)).flatten = es.flatten.drop (i * z + new.length * z) := by
      have h1 : es.flatten = (es.take (i + new.length)).flatten ++ (es.drop (i + new.length)).flatten := by rw [← List.flatten_append, List.take_append_drop]
      have h2 : (es.take (i + new.length)).flatten.length = i * z + new.length * z := by rw [flatten_len _ (fun x hx => hr.wid x (List.mem_of_mem_take hx)), List.length_take, Nat.min_eq_left (by omega), Nat.add_mul]
      rw [h1, ← h2, List.drop_left' rfl]
    rw [ht, hd]
  refine ⟨?_, ?_⟩
  · have := run_storeCells_cells (P := P) l.b (l.o + i * z) vals 0 w
      (fun j hj => by rw [show l.o + i * z + 0 + j = l.o + (i * z + j) from by omega]; exact (row_cells hr _ (by omega)).1)
      (fun j hj => by rw [show l.o + i * z + 0 + j = l.o + (i * z + j) from by omega]; exact (row_cells hr _ (by omega)).2) (vals_one hv ho)
    simpa using this
  · refine hI.patch (id := id) (l := l) (es' := splice es i new) (z := z) hl (fun _ _ => rfl) (.inr hl) (by simp [(hI.live id l hl).2.2]) ?_ (by simp) (setCells_streams _ _ _ _) (setCells_size _ _ _ _) (fun b hb => setCells_other _ _ _ _ _ hb)
      (hr.own rfl) (hI.live id l hl).1 (hI.live id l hl).2.1 ?_ (hr.set (fun _ _ h => h) hfs hsw hsl hv ho (by omega))
    · intro j l' hj _; exact .inl (by rw [List.getElem?_set_ne (fun e => hj e.symm)])
    · intro j lj m hj hlj hmj ha
      rw [List.getElem?_set_ne (fun e => hj e.symm)] at hmj
      exact hI.apart j id lj l m _ hj hlj hl hmj hm ha rfl

theorem appendS_sound {ts : Array TypeId} {ty t e : TypeId} {z by_ : Nat} {zero : List PV} {s x v : PV} {sv xv : Value} {new : List (List PV)} {H' : List Mem} (hI : Inv φ H w S B) (ht : ts[0]? = some t) (hu : P.underlying t = some (.slice e)) (hz : tsize P e = some z) (hby : tbytes P e = some by_)
    (hzc : zcells P e = some zero) (hsrc : srcOf H x = some new) (hn : notIntT P (ts[1]?) = true) (hby0 : 0 < by_) (hz0 : 0 < z) (hzl : zero.length = z) (hh : headOk new z = true) (hop : appendS H z by_ s new = some (v, H')) (hs : VRel φ w S s sv) (hx : VRel φ w S x xv) :
    ∃ u w' φ' S', (Builtin.append_ ts ty #[sv, xv]).run P w = .ok u w' ∧ Inv φ' H' w' S' B ∧ Evo H.length B φ S w φ' S' w' ∧ VRel φ' w' S' v u := by
  obtain ⟨hlen, hwn, vals, hv, ho, hfc⟩ := srcOf_sound (P := P) hI hsrc hx hh
  obtain ⟨i, zv, hi, hzi, hzvl, _⟩ := zcells_sound (w := w) (φ := φ) (S := S) hzc
  have hisz : i.size = z := by unfold tsize at hz; rw [hi] at hz; simpa using hz
  have hiby : i.bytes = by_ := by unfold tbytes at hby; rw [hi] at hby; simpa using hby
  have hzvs : zv.cells.size = z := by have := VL.length hzvl; simpa [hzl] using this
  have hvall : vals.length = new.length * z := by rw [VL.length hv, flatten_len new hwn]
  have hfull : vals.take (new.length * z) = vals := List.take_of_length_le (by omega)
  have hfc0 := hfc w new.length (Nat.le_refl _) (fun _ _ => rfl)
  have hfc1 := hfc w.drew new.length (Nat.le_refl _) (fun _ _ => rfl)
  rw [hfull] at hfc0 hfc1
  unfold appendS at hop
  split at hop
  · -- nil
    simp only [VRel] at hs; subst hs
    by_cases hne : new.isEmpty = true
    · rw [if_pos hne] at hop
      cases hop
      have : new = [] := List.isEmpty_iff.1 hne
      subst this
      have hv0 : vals = [] := by simpa [VL] using hv
      subst hv0
      exact ⟨_, w, φ, S, append_fits (base := none) (sCap := 0) ht hu hz hn hlen hfc0 (by simp) (by rfl), hI, Evo.refl _ _ _ _ _, by simp only [VRel]; rfl⟩
    · rw [if_neg hne] at hop
      obtain ⟨hb, hop⟩ := if_some hop
      cases hop
      have hpos : 0 < new.length := by cases new with | nil => simp at hne | cons _ _ => simp
      have hr := append_grows (ts := ts) (ty := ty) (sLen := 0) (sCap := 0) (base := none) (olds := []) ht hu hi hisz hiby hzi hn hlen hfc1 (by simp [Builtin.firstCells]) (by omega) hby0 (by simpa using hb)
      have hI' : Inv φ (H ++ [Mem.row new z true]) w S B := hI.reheap (fun j l hj => .inl (by rw [List.getElem?_append_left (hI.live j l hj).2.2])) (by simp)
      have hφ : φ H.length = none := by
        cases hc : φ H.length with
        | none => rfl
        | some l => have := (hI.live _ l hc).2.2; omega
      have hge := grownCap_ge w (0 + new.length) 0 e
      obtain ⟨φ', S', h2, h3, h4⟩ := append_new (e := e) (zv := zv) (sLen := 0) (n := new.length) (olds := []) (vals := vals) (id := H.length) hI' hφ (by simp) (grownCap w (0 + new.length) 0 e) hge hwn (by simp) (by simpa using hv) ho hzvs
      refine ⟨_, _, φ', S', hr, h2, h3.mono (by simp), ?_⟩
      simpa using h4
  · rename_i id j n room
    split at hop
    · rename_i es z' hm
      obtain ⟨⟨hzz, hle⟩, hop⟩ := if_some hop
      subst hzz
      simp only [VRel] at hs
      obtain ⟨l, ad, cp, hl, rfl, hncp0, hncp1, hcase⟩ := hs
      have hncp : n ≤ cp := Nat.le_trans hncp0 hncp1
      have hr := hI.row id l es z' true hl hm
      by_cases hne : new.isEmpty = true
      · rw [if_pos hne] at hop
        cases hop
        have : new = [] := List.isEmpty_iff.1 hne
        subst this
        have hv0 : vals = [] := by simpa [VL] using hv
        subst hv0
        refine ⟨_, w, φ, S, append_fits (base := some ad) ht hu hz hn hlen hfc0 (by simpa using hncp) (by rfl), hI, Evo.refl _ _ _ _ _, ?_⟩
        simp only [VRel]; exact ⟨l, ad, cp, hl, by simp, hncp0, hncp1, hcase⟩
      · rw [if_neg hne] at hop
        have hpos : 0 < new.length := by cases new with | nil => simp at hne | cons _ _ => simp
        by_cases hroom : n + new.length ≤ room
        · rw [if_pos hroom] at hop
          obtain ⟨hes, hop⟩ := if_some hop
          cases hop
          rcases hcase with ⟨h0, hc0⟩ | ⟨rfl, htop⟩
          · omega
          · obtain ⟨h1, h2, h3⟩ := row_splice (P := P) (i := j + n) (new := new) hI hl hm hwn hv ho (by omega)
            have e1 : l.o + j * l.z + n * z' = l.o + (j + n) * z' := by rw [hr.zs, Nat.add_mul]; omega
            have hrun := append_fits (ts := ts) (ty := ty) (base := some ⟨l.b, l.o + j * l.z, none⟩) (w' := w.setCells l.b (l.o + (j + n) * z') vals) ht hu hz hn hlen hfc0 (Nat.le_trans hroom hncp1) (by
              show (storeCells ((⟨l.b, l.o + j * l.z, none⟩ : Addr).add (n * z')) vals).run P w = _
              rw [Addr.add_lit, e1]; exact h1)
            refine ⟨_, _, φ, S, hrun, h2, h3, ?_⟩
            simp only [VRel]
            exact ⟨l, _, cp, hl, rfl, hroom, hncp1, .inr ⟨rfl, htop⟩⟩
        rw [if_neg hroom] at hop
        obtain ⟨hb, hop⟩ := if_some hop
        cases hop
        have hidl := (hI.live id l hl).2.2
        have hφ : φ H.length = none := by
          cases hc : φ H.length with
          | none => rfl
          | some l => have := (hI.live _ l hc).2.2; omega
        have hold : VE φ w S ((es.drop j).take n) l.b (l.o + j * l.z) := by rw [hr.zs]; exact VE.take n (VE.drop j hr.wid (by omega) hr.cells)
        have holdw : ∀ c ∈ (es.drop j).take n, c.length = z' := fun c hc => hr.wid c (List.mem_of_mem_drop (List.mem_of_mem_take hc))
        have holdl : ((es.drop j).take n).length = n := by rw [List.length_take, List.length_drop]; omega
        obtain ⟨olds, hov, hoo, hoc⟩ := VC.vals (VE.flat hold)
        have holen : olds.length = n * z' := by rw [VL.length hov, flatten_len _ holdw, holdl]
        have hallw : ∀ c ∈ (es.drop j).take n ++ new, c.length = z' := fun c hc => (List.mem_append.1 hc).elim (holdw c) (hwn c)
        have hreheap : Inv φ (H.set id .dead ++ [Mem.row ((es.drop j).take n ++ new) z' true]) w S B := hI.reheap (fun k lk hk => by
          have hkl := (hI.live k lk hk).2.2
          rw [List.getElem?_append_left (by simpa using hkl)]
          by_cases hki : k = id
          · subst hki; right; simp [hkl]
          · left; rw [List.getElem?_set_ne (fun e => hki e.symm)]) (by simp)
        have hHnew : (H.set id .dead ++ [Mem.row ((es.drop j).take n ++ new) z' true])[H.length]? = some (.row ((es.drop j).take n ++ new) z' true) := by
          rw [List.getElem?_append_right (by simp)]; simp
        by_cases hfit : n + new.length ≤ cp
        · -- within the capacity
          rcases hcase with ⟨h0, hc0⟩ | ⟨rfl, htop⟩
          · omega
          · have hlz := hr.zs
            rw [hlz] at htop
            have hin : (j + n) * z' + new.length * z' ≤ l.top := by
              rw [← Nat.add_mul]
              exact Nat.le_trans (Nat.mul_le_mul_right _ (by omega)) htop
            have e1 : l.o + j * l.z + n * z' = l.o + (j + n) * z' := by rw [hlz, Nat.add_mul]; omega
            have hrow0 : ∀ k, k < vals.length → (w.cell? ⟨l.b, l.o + (j + n) * z' + k, none⟩).isSome = true ∧ w.frozen? ⟨l.b, l.o + (j + n) * z' + k, none⟩ = false := by
              intro k hk
              have := row_cells hr ((j + n) * z' + k) (by omega)
              rwa [← Nat.add_assoc] at this
            have hst := run_storeCells_cells (P := P) l.b (l.o + (j + n) * z') vals 0 w (fun k hk => by simpa using (hrow0 k hk).1) (fun k hk => by simpa using (hrow0 k hk).2) (vals_one hv ho)
            have hrun := append_fits (ts := ts) (ty := ty) (base := some ⟨l.b, l.o + j * l.z, none⟩) (w' := w.setCells l.b (l.o + (j + n) * z') vals) ht hu hz hn hlen hfc0 hfit (by
              show (storeCells ((⟨l.b, l.o + j * l.z, none⟩ : Addr).add (n * z')) vals).run P w = _
              rw [Addr.add_lit, e1]; simpa using hst)
            let l' : Loc := ⟨l.b, l.o + j * z', z', l.top - j * z'⟩
            let φ' : Phi := fun k => if k = H.length then some l' else φ k
            have hp : ∀ k lk, φ k = some lk → φ' k = some lk := by
              intro k lk hk
              show (if k = H.length then _ else φ k) = _
              rw [if_neg]
              · exact hk
              · rintro rfl; rw [hφ] at hk; cases hk
            have hns : ¬ S l.b := hr.own rfl
            have hs' : ∀ k, S k → S k ∧ (w.setCells l.b (l.o + (j + n) * z') vals).heap[k]? = w.heap[k]? := fun k hk => ⟨hk, setCells_other _ _ _ _ _ (by rintro rfl; exact hns hk)⟩
            have hjm : (j + n) * z' = j * z' + n * z' := Nat.add_mul _ _ _
            have hpatch := hreheap.patch (w' := w.setCells l.b (l.o + (j + n) * z') vals) (id := H.length) (l := l') (φ' := φ') (H' := H.set id .dead ++ [Mem.row ((es.drop j).take n ++ new) z' true]) (if_pos rfl) (fun k hk => if_neg hk) (.inl hφ) hHnew (fun _ _ _ _ => .inl rfl) (Nat.le_refl _)
              (setCells_streams _ _ _ _) (setCells_size _ _ _ _) (fun b hb => setCells_other _ _ _ _ _ hb) hns (hI.live id l hl).1 (hI.live id l hl).2.1
              (by
                intro k lk m hk hlk hmk ha
                have hkl := (hI.live k lk hlk).2.2
                rw [List.getElem?_append_left (by simpa using hkl)] at hmk
                by_cases hki : k = id
                · subst hki; simp [hkl] at hmk; subst hmk; simp [Mem.alive] at ha
                · rw [List.getElem?_set_ne (fun e => hki e.symm)] at hmk
                  exact hI.apart k id lk l m _ hki hlk hl hmk hm ha rfl)
              ⟨rfl, by simp only [List.length_append, holdl]; show (n + new.length) * z' ≤ l.top - j * z'; rw [Nat.add_mul]; omega, hallw, by
                refine VE.append holdw (VE.of_flat ?_) ?_
                · have hkeep := VC.keep (φ' := φ') hp hs' _ _ (.inl (by rw [flatten_len _ holdw, holdl, hlz]; omega)) (VE.flat hold)
                  rw [hlz] at hkeep
                  exact hkeep
                · rw [holdl]
                  show VE φ' _ S new l.b (l.o + j * z' + n * z')
                  rw [show l.o + j * z' + n * z' = l.o + (j + n) * z' from by omega]
                  exact VE.of_flat (VC.fresh hp hs' hv ho (fun k hk => (hrow0 k hk).1)), by
                obtain ⟨cur, e', fz, h1, h2, h3⟩ := hr.blk
                obtain ⟨cur', h4, h5⟩ := setCells_block l.b vals (l.o + (j + n) * z') w cur e' fz h1
                refine ⟨cur', e', fz, h4, ?_, fun hm' k hk => by rw [World.frozen?_setCells]; exact h3 rfl k (by omega)⟩
                show l.o + j * z' + (l.top - j * z') ≤ cur'.size
                omega, fun _ => hns, fun h => by cases h⟩
            refine ⟨_, _, φ', S, hrun, hpatch.1, hpatch.2.mono (by simp), ?_⟩
            simp only [VRel]
            refine ⟨l', _, cp, if_pos rfl, rfl, Nat.le_refl _, hfit, .inr ⟨by show _ = (⟨l.b, l.o + j * z' + 0 * z', none⟩ : Addr); rw [hlz]; simp, ?_⟩⟩
            show (0 + cp) * z' ≤ l.top - j * z'
            have : (j + cp) * z' = j * z' + cp * z' := Nat.add_mul _ _ _
            simp only [Nat.zero_add]
            omega
        · -- a new array
          have hfo : (Builtin.firstCells z' n (.slice (some ad) n cp)).run P w.drew = .ok olds.toArray w.drew := by
            rcases hcase with ⟨h0, _⟩ | ⟨rfl, _⟩
            · subst h0
              have : olds = [] := List.length_eq_zero_iff.1 (by simpa using holen)
              subst this
              simp [Builtin.firstCells, loadCells, loadCellsFrom]
            · have := run_loadCells_list (P := P) w.drew ⟨l.b, l.o + j * l.z, none⟩ olds (fun k v hk => by rw [Addr.add_lit]; exact hoc k v hk)
              rw [holen] at this
              simpa [Builtin.firstCells] using this
          have hrn := append_grows (ts := ts) (ty := ty) (sLen := n) (sCap := cp) (base := some ad) (olds := olds) ht hu hi hisz hiby hzi hn hlen hfc1 hfo (by omega) hby0 hb
          have hge := grownCap_ge w (n + new.length) cp e
          obtain ⟨φ', S', h2, h3, h4⟩ := append_new (e := e) (zv := zv) (sLen := n) (n := new.length) (olds := olds) (vals := vals) (id := H.length) hreheap hφ hHnew (grownCap w (n + new.length) cp e) hge hallw (by simp [holdl])
            (by rw [List.flatten_append]; exact VL.append hov hv) (by intro c hc; rw [List.flatten_append] at hc; exact (List.mem_append.1 hc).elim (hoo c) (ho c)) hzvs
          exact ⟨_, _, φ', S', hrn, h2, h3.mono (by simp), h4⟩
    · cases hop
  · cases hop

end
end Go.Am
