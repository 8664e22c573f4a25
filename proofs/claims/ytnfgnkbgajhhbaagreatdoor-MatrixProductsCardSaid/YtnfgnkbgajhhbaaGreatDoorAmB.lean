/-
 The evaluator of the model's code on plain values, with its soundness and its walking rules (part 2).
-/
import Derived.Test.YtnfgnkbgajhhbaaGreatDoorAmA
import Derived.Orders
import Derived.LoopN
import Derived.ProofKit
import Derived.SizedLaws
set_option linter.constructorNameAsVariable false
set_option linter.unusedSimpArgs false
set_option linter.unusedVariables false
set_option linter.unusedSectionVars false
/-
 append, copy, clear, maps.
-/
namespace Go.Am
variable [Laid]
open Go.RowKit
section
variable {P : Program} {h : Hints} {E : Ev} {w : World} {φ : Phi} {S : Nat → Prop} {B : Nat} {H : List Mem}
theorem Zgb {es : List (List PV)} {z z' : Nat} (hh : Zd9 es z = true) (hw : ∀ x ∈ es, x.length = z') : ∀ x ∈ es, x.length = z := by
 cases es with
 | nil => simp
 | cons c r =>
  simp only [Zd9, beq_iff_eq] at hh
  have : z' = z := by rw [← hw c List.mem_cons_self]; exact hh
  subst this; exact hw
theorem Zif {x : PV} {new : List (List PV)} {X : Value} {z : Nat} (hI : Inv φ H w S B) (hs : Ziq H x = some new) (hx : VRel φ w S x X) (hz : Zd9 new z = true) :
 (∀ w', (Builtin.lenOf X).run P w' = .ok new.length w') ∧ (∀ y ∈ new, y.length = z) ∧ ∃ vals, VL φ w S new.flatten vals ∧ (∀ c ∈ new.flatten, ZbV c = true) ∧
  ∀ (w' : World) (k : Nat), k ≤ new.length → (∀ b, b < w.heap.size → w'.heap[b]? = w.heap[b]?) → (Builtin.firstCells z k X).run P w' = .ok (vals.take (k * z)).toArray w' := by
 have slices : ∀ es, elems H x = some es → new = es → (∀ w', (Builtin.lenOf X).run P w' = .ok new.length w') ∧ (∀ y ∈ new, y.length = z) ∧ ∃ vals, VL φ w S new.flatten vals ∧ (∀ c ∈ new.flatten, ZbV c = true) ∧
  ∀ (w' : World) (k : Nat), k ≤ new.length → (∀ b, b < w.heap.size → w'.heap[b]? = w.heap[b]?) → (Builtin.firstCells z k X).run P w' = .ok (vals.take (k * z)).toArray w' := by
  intro es hes hne
  subst hne
  obtain ⟨a, c, rfl, hle, hc⟩ := Zht hI hes hx
  refine ⟨fun w' => rfl, ?_, ?_⟩
  ·rcases hc with rfl | ⟨b, o, z', _, hw, _⟩
   ·simp
   ·exact Zgb hz hw
  ·rcases hc with rfl | ⟨b, o, z', rfl, hw, hv⟩
   ·refine ⟨[], by simp [VL], by simp, fun w' k hk _ => ?_⟩
    have : k = 0 := by simpa using hk
    subst this
    cases a <;> simp [Builtin.firstCells, loadCells, loadCellsFrom]
   ·obtain ⟨vs, h1, h2, h3⟩ := VC.vals (VE.flat hv)
    refine ⟨vs, h1, h2, fun w' k hk hb => ?_⟩
    have hlen : vs.length = new.length * z := by rw [VL.length h1, ZaL new (Zgb hz hw)]
    have hkl : (vs.take (k * z)).length = k * z := by rw [List.length_take, hlen]; exact Nat.min_eq_left (Nat.mul_le_mul_right _ hk)
    have := run_loadCells_list (P := P) w' ⟨b, o, none⟩ (vs.take (k * z)) (fun j v hj => by
     rw [Addr.add_lit]
     have hj' : vs[j]? = some v := by
      rw [List.getElem?_take] at hj
      split at hj
      ·exact hj
      ·cases hj
     have hcell := h3 j v hj'
     rw [ZeQ (hb b (World.block_lt_of_cell? w _ hcell))]
     exact hcell)
    rw [hkl] at this
    simpa [Builtin.firstCells] using this
 unfold Ziq at hs
 split at hs
 ·rename_i b
  cases hs
  simp only [VRel] at hx; subst hx
  have hlen : (byteCells b).length = b.size := by simp [byteCells]
  refine ⟨fun w' => by rw [hlen]; rfl, Zgb (z' := 1) hz (by intro y hy; simp only [byteCells, List.mem_map] at hy; obtain ⟨q, _, rfl⟩ := hy; rfl), (b.data.toList.map fun q => (q.toNat : Int)).map (Value.int .u8), ?_, ?_, ?_⟩
  ·have hf : (byteCells b).flatten = (b.data.toList.map fun q => (q.toNat : Int)).map (PV.int .u8) := by
    simp only [byteCells]
    rw [Zc3 (fun q : UInt8 => PV.int .u8 q.toNat), List.map_map]; rfl
   rw [hf]; exact Zmo _
  ·intro c hc
   simp only [byteCells, List.mem_flatten, List.mem_map] at hc
   obtain ⟨l, ⟨q, _, rfl⟩, hc⟩ := hc
   simp at hc; subst hc; rfl
  ·intro w' k hk _
   have hz1 : b.size = 0 ∨ z = 1 := by
    cases hd : byteCells b with
    | nil => left; rw [← hlen, hd]; rfl
    | cons c r =>
     right
     rw [hd] at hz
     simp only [Zd9, beq_iff_eq] at hz
     have : c ∈ byteCells b := by rw [hd]; exact List.mem_cons_self
     simp only [byteCells, List.mem_map] at this
     obtain ⟨q, _, rfl⟩ := this
     exact hz.symm
   have hkz : k * z = k := by
    rcases hz1 with h0 | rfl
    ·have : k = 0 := by omega
     subst this; simp
    ·simp
   rw [hkz]
   simp only [Builtin.firstCells, Sem.run_pure]
   congr 1
   apply Array.ext'
   simp [ByteArray.data_extract, Array.toList_extract, List.extract_eq_take_drop, List.map_take]
   rfl
 ·exact slices new hs rfl
theorem Ze5 {t : Option TypeId} (hn : Zd5 P t = true) : t = none ∨ ∃ t1 d, t = some t1 ∧ P.underlying t1 = some d ∧ ∀ k, d ≠ .int k := by
 cases t with
 | none => exact .inl rfl
 | some t =>
  right
  simp only [Zd5] at hn
  cases hu : P.underlying t with
  | none => simp [hu] at hn
  | some d =>
   refine ⟨t, d, rfl, hu, ?_⟩
   rintro k rfl
   simp [hu] at hn
theorem ZdG {ts : Array TypeId} {ty t e : TypeId} {z n sLen sCap : Nat} {base : Option Addr} {xv : Value} {vals : List Value} {w' : World} (ht : ts[0]? = some t) (hu : P.underlying t = some (.slice e)) (hz : ZaP P e = some z) (hn : Zd5 P (ts[1]?) = true)
 (hlen : ∀ w', (Builtin.lenOf xv).run P w' = .ok n w') (hfc : (Builtin.firstCells z n xv).run P w = .ok vals.toArray w) (hfit : sLen + n ≤ sCap)
 (hst : (match base with | some a => storeCells (a.add (sLen * z)) vals | none => pure () : Sem Unit).run P w = .ok () w') :
 (Builtin.append_ ts ty #[.slice base sLen sCap, xv]).run P w = .ok (.slice base (sLen + n) sCap) w' := by
 have ha0 : (#[Value.slice base sLen sCap, xv] : Array Value)[0]? = some (.slice base sLen sCap) := rfl
 have ha1 : (#[Value.slice base sLen sCap, xv] : Array Value)[1]? = some xv := rfl
 unfold Builtin.append_
 simp only [ht, ha0, ha1, Sem.run_bind, run_underlying hu, Result.andThen_ok, ZaC hz]
 have fin : ∀ s : Sem Unit, s.run P w = .ok () w' → (do s; pure (Value.slice base (sLen + n) sCap) : Sem Value).run P w = .ok (.slice base (sLen + n) sCap) w' := by
  intro s hs; simp [hs]
 rcases Ze5 hn with h1 | ⟨t1, d, h1, hu1, hd⟩
 ·simp only [h1, Sem.run_bind, Sem.run_pure, Result.andThen_ok, Bool.false_eq_true, if_false, if_true, hlen, Bool.not_false, hfc, if_pos hfit]
  cases base with
  | none => simp only [Sem.run_pure] at hst ⊢; cases hst; rfl
  | some a => simp only [Sem.run_bind, List.toList_toArray] at hst ⊢; rw [hst]; rfl
 ·simp only [h1, Sem.run_bind, run_underlying hu1, Result.andThen_ok]
  have hbody : ∀ b : Bool, b = false → (pure b : Sem Bool).run P w = .ok false w := by rintro _ rfl; rfl
  cases d <;> first
   | exact absurd rfl (hd _)
   | (simp only [Sem.run_bind, Sem.run_pure, Result.andThen_ok, Bool.false_eq_true, if_false, if_true, hlen, Bool.not_false, hfc, if_pos hfit]
      cases base with
      | none => simp only [Sem.run_pure] at hst ⊢; cases hst; rfl
      | some a => simp only [Sem.run_bind, List.toList_toArray] at hst ⊢; rw [hst]; rfl)
theorem ZgS {ts : Array TypeId} {ty t e : TypeId} {z by_ n sLen sCap : Nat} {base : Option Addr} {xv zv : Value} {olds vals : List Value} {i : TypeInfo} (ht : ts[0]? = some t) (hu : P.underlying t = some (.slice e)) (hi : P.info? e = some i) (hz : i.size = z) (hby : i.bytes = by_)
 (hzv : i.zero = some zv) (hn : Zd5 P (ts[1]?) = true)
 (hlen : ∀ w', (Builtin.lenOf xv).run P w' = .ok n w') (hfc : (Builtin.firstCells z n xv).run P w.drew = .ok vals.toArray w.drew) (hfo : (Builtin.firstCells z sLen (.slice base sLen sCap)).run P w.drew = .ok olds.toArray w.drew) (hfit : sCap < sLen + n)
 (hby0 : 0 < by_) (hb : (sLen + n) * by_ ≤ 140737488355328) :
 (Builtin.append_ ts ty #[.slice base sLen sCap, xv]).run P w = .ok (.slice (some ⟨w.heap.size, 0, none⟩) (sLen + n) (grownCap w (sLen + n) sCap e))
  (w.drew.alloc (.cells (olds.toArray ++ vals.toArray ++ Builtin.zeroCells zv.cells (grownCap w (sLen + n) sCap e - (sLen + n))) e)) := by
 have ha0 : (#[Value.slice base sLen sCap, xv] : Array Value)[0]? = some (.slice base sLen sCap) := rfl
 have ha1 : (#[Value.slice base sLen sCap, xv] : Array Value)[1]? = some xv := rfl
 have hsz : (sizeOf e).run P w = .ok z w := by simp [sizeOf, typeInfo, hi, hz]
 have hti : ∀ w, (typeInfo e).run P w = .ok i w := by intro w; simp [typeInfo, hi]
 have hzr : ∀ w, (zeroValue e).run P w = .ok zv w := by intro w; simp [zeroValue, typeInfo, hi, hzv]
 have hnfit : ¬ sLen + n ≤ sCap := by omega
 have hbz : ¬ i.bytes = 0 := by omega
 have hgrow : ¬ Builtin.nextslicecap (sLen + n) sCap * i.bytes > 2 ^ 48 := by
  have := growslice_fits (need := sLen + n) (old := sCap) (bytes := by_) (by omega) hb
  rw [hby]
  have e : (2:Nat) ^ 48 = 281474976710656 := by decide
  omega
 have hch : (choose (.appendCap (sLen + n) sCap e)).run P w = .ok (grownCap w (sLen + n) sCap e) w.drew := by
  rw [run_choose]; rfl
 unfold Builtin.append_
 simp only [ht, ha0, ha1, Sem.run_bind, run_underlying hu, Result.andThen_ok, hsz]
 rcases Ze5 hn with h1 | ⟨t1, d, h1, hu1, hd⟩
 ·simp only [h1, Sem.run_bind, Sem.run_pure, Result.andThen_ok, Bool.false_eq_true, if_false, if_true, hlen, Bool.not_false, if_neg hnfit, hti, hbz, or_self, and_false, if_neg hgrow, hch, run_askRoom, hfo, hfc, hzr, newRow, run_newObj]
  rfl
 ·simp only [h1, Sem.run_bind, run_underlying hu1, Result.andThen_ok]
  cases d <;> first
   | exact absurd rfl (hd _)
   | (simp only [Sem.run_bind, Sem.run_pure, Result.andThen_ok, Bool.false_eq_true, if_false, if_true, hlen, Bool.not_false, if_neg hnfit, hti, hbz, or_self, and_false, if_neg hgrow, hch, run_askRoom, hfo, hfc, hzr, newRow, run_newObj]
      rfl)
theorem ZgN (z : Array Value) (n : Nat) : Builtin.zeroCells z n = madeCells z (n * z.size) := rfl
theorem Zia (z : Array Value) (n : Nat) : (Builtin.zeroCells z n).size = n * z.size := by rw [ZgN, size_madeCells]
theorem Zi0 {e : TypeId} {z n sLen : Nat} {zv : Value} {id : Nat} {es : List (List PV)} {olds vals : List Value} (hI : Inv φ H w S B) (hφ : φ id = none) (hH : H[id]? = some (.row es z true)) (cap : Nat) (hcap : sLen + n ≤ cap)
 (hw : ∀ c ∈ es, c.length = z) (hl : es.length = sLen + n) (hv : VL φ w S es.flatten (olds ++ vals)) (h1 : ∀ c ∈ es.flatten, ZbV c = true) (hzs : zv.cells.size = z) :
 ∃ φ' S', Inv φ' H (w.drew.alloc (.cells (olds.toArray ++ vals.toArray ++ Builtin.zeroCells zv.cells (cap - (sLen + n))) e)) S' B ∧ Evo H.length B φ S w φ' S' (w.drew.alloc (.cells (olds.toArray ++ vals.toArray ++ Builtin.zeroCells zv.cells (cap - (sLen + n))) e)) ∧
   VRel φ' (w.drew.alloc (.cells (olds.toArray ++ vals.toArray ++ Builtin.zeroCells zv.cells (cap - (sLen + n))) e)) S' (.ref id 0 (sLen + n) (sLen + n)) (.slice (some ⟨w.heap.size, 0, none⟩) (sLen + n) cap) := by
 have hlen : (olds ++ vals).length = (sLen + n) * z := by rw [VL.length hv, ZaL es hw, hl]
 have hsize : (olds.toArray ++ vals.toArray ++ Builtin.zeroCells zv.cells (cap - (sLen + n))).size = cap * z := by
  simp only [Array.size_append, List.size_toArray, Zia, hzs]
  rw [List.length_append] at hlen
  rw [hlen, ← Nat.add_mul]; congr 1; omega
 obtain ⟨φ', S', h2, h3, h4, _⟩ := hI.add (fz := (0, 0)) (ZdH w (.cells (olds.toArray ++ vals.toArray ++ Builtin.zeroCells zv.cells (cap - (sLen + n))) e)) hφ hH (ZcU w _) hw hv h1
  (by intro j v hj
      have : j < (olds ++ vals).length := (List.getElem?_eq_some_iff.1 hj).1
      rw [show olds.toArray ++ vals.toArray = (olds ++ vals).toArray from by simp, Array.getElem?_append_left (by simpa using this)]
      simpa using hj)
  (by rw [hl, hsize]; exact Nat.mul_le_mul_right _ hcap) (by intro j hj; simp)
 refine ⟨φ', S', h2, h3, ?_⟩
 simp only [VRel]
 exact ⟨_, _, cap, h4, rfl, Nat.le_refl _, hcap, .inr ⟨by simp, by simp only [Nat.zero_add]; exact Nat.le_of_eq hsize.symm⟩⟩
theorem Zf7 {id i : Nat} {es new : List (List PV)} {z : Nat} {l : Loc} {vals : List Value} (hI : Inv φ H w S B) (hl : φ id = some l) (hm : H[id]? = some (.row es z true)) (hw : ∀ c ∈ new, c.length = z) (hv : VL φ w S new.flatten vals) (ho : ∀ c ∈ new.flatten, ZbV c = true)
 (hle : i + new.length ≤ es.length) :
 (storeCells ⟨l.b, l.o + i * z, none⟩ vals).run P w = .ok () (w.setCells l.b (l.o + i * z) vals) ∧ Inv φ (H.set id (.row (splice es i new) z true)) (w.setCells l.b (l.o + i * z) vals) S B ∧ Evo H.length B φ S w φ S (w.setCells l.b (l.o + i * z) vals) := by
 have hr := hI.row id l es z true hl hm
 have hnl := ZaL new hw
 have hel := ZaL es hr.wid
 have hvl : vals.length = new.length * z := by rw [VL.length hv, hnl]
 have htop := hr.top
 have hin : i * z + new.length * z ≤ es.length * z := by rw [← Nat.add_mul]; exact Nat.mul_le_mul_right _ hle
 have hsw : ∀ x ∈ splice es i new, x.length = z := fun x hx => (ZfU hx).elim (hr.wid x) (hw x)
 have hsl : (splice es i new).length = es.length := Ze4 _ _ _ hle
 have hfs : (splice es i new).flatten = splice es.flatten (i * z) new.flatten := by
  unfold splice
  rw [List.flatten_append, List.flatten_append, hnl]
  have ht : (es.take i).flatten = es.flatten.take (i * z) := by
   have h1 : es.flatten = (es.take i).flatten ++ (es.drop i).flatten := by rw [← List.flatten_append, List.take_append_drop]
   have h2 : (es.take i).flatten.length = i * z := by rw [ZaL _ (fun x hx => hr.wid x (List.mem_of_mem_take hx)), List.length_take, Nat.min_eq_left (by omega)]
   rw [h1, ← h2, List.take_left' rfl]
  have hd : (es.drop (i + new.length)).flatten = es.flatten.drop (i * z + new.length * z) := by
   have h1 : es.flatten = (es.take (i + new.length)).flatten ++ (es.drop (i + new.length)).flatten := by rw [← List.flatten_append, List.take_append_drop]
   have h2 : (es.take (i + new.length)).flatten.length = i * z + new.length * z := by rw [ZaL _ (fun x hx => hr.wid x (List.mem_of_mem_take hx)), List.length_take, Nat.min_eq_left (by omega), Nat.add_mul]
   rw [h1, ← h2, List.drop_left' rfl]
  rw [ht, hd]
 refine ⟨?_, ?_⟩
 ·have := run_storeCells_cells (P := P) l.b (l.o + i * z) vals 0 w
   (fun j hj => by rw [show l.o + i * z + 0 + j = l.o + (i * z + j) from by omega]; exact (Zdb hr _ (by omega)).1)
   (fun j hj => by rw [show l.o + i * z + 0 + j = l.o + (i * z + j) from by omega]; exact (Zdb hr _ (by omega)).2) (ZjA hv ho)
  simpa using this
 ·refine hI.patch (id := id) (l := l) (es' := splice es i new) (z := z) hl (fun _ _ => rfl) (.inr hl) (by simp [(hI.live id l hl).2.2]) ?_ (by simp) (ZbE _ _ _ _) (Zcw _ _ _ _) (fun b hb => Zbg _ _ _ _ _ hb)
   (hr.own rfl) (hI.live id l hl).1 (hI.live id l hl).2.1 ?_ (hr.set (fun _ _ h => h) hfs hsw hsl hv ho (by omega))
  ·intro j l' hj _; exact .inl (by rw [List.getElem?_set_ne (fun e => hj e.symm)])
  ·intro j lj m hj hlj hmj ha
   rw [List.getElem?_set_ne (fun e => hj e.symm)] at hmj
   exact hI.apart j id lj l m _ hj hlj hl hmj hm ha rfl
theorem Zj0 {ts : Array TypeId} {ty t e : TypeId} {z by_ : Nat} {zero : List PV} {s x v : PV} {sv xv : Value} {new : List (List PV)} {H' : List Mem} (hI : Inv φ H w S B) (ht : ts[0]? = some t) (hu : P.underlying t = some (.slice e)) (hz : ZaP P e = some z) (hby : ZhK P e = some by_)
 (hzc : ZcG P e = some zero) (hsrc : Ziq H x = some new) (hn : Zd5 P (ts[1]?) = true) (hby0 : 0 < by_) (hz0 : 0 < z) (hzl : zero.length = z) (hh : Zd9 new z = true) (hop : Zb2 H z by_ s new = some (v, H')) (hs : VRel φ w S s sv) (hx : VRel φ w S x xv) :
 ∃ u w' φ' S', (Builtin.append_ ts ty #[sv, xv]).run P w = .ok u w' ∧ Inv φ' H' w' S' B ∧ Evo H.length B φ S w φ' S' w' ∧ VRel φ' w' S' v u := by
 obtain ⟨hlen, hwn, vals, hv, ho, hfc⟩ := Zif (P := P) hI hsrc hx hh
 obtain ⟨i, zv, hi, hzi, hzvl, _⟩ := ZbK (w := w) (φ := φ) (S := S) hzc
 have hisz : i.size = z := by unfold ZaP at hz; rw [hi] at hz; simpa using hz
 have hiby : i.bytes = by_ := by unfold ZhK at hby; rw [hi] at hby; simpa using hby
 have hzvs : zv.cells.size = z := by have := VL.length hzvl; simpa [hzl] using this
 have hvall : vals.length = new.length * z := by rw [VL.length hv, ZaL new hwn]
 have hfull : vals.take (new.length * z) = vals := List.take_of_length_le (by omega)
 have hfc0 := hfc w new.length (Nat.le_refl _) (fun _ _ => rfl)
 have hfc1 := hfc w.drew new.length (Nat.le_refl _) (fun _ _ => rfl)
 rw [hfull] at hfc0 hfc1
 unfold Zb2 at hop
 split at hop
 ·
  simp only [VRel] at hs; subst hs
  by_cases hne : new.isEmpty = true
  ·rw [if_pos hne] at hop
   cases hop
   have : new = [] := List.isEmpty_iff.1 hne
   subst this
   have hv0 : vals = [] := by simpa [VL] using hv
   subst hv0
   exact ⟨_, w, φ, S, ZdG (base := none) (sCap := 0) ht hu hz hn hlen hfc0 (by simp) (by rfl), hI, Evo.refl _ _ _ _ _, by simp only [VRel]; rfl⟩
  ·rw [if_neg hne] at hop
   obtain ⟨hb, hop⟩ := Zaq hop
   cases hop
   have hpos : 0 < new.length := by cases new with | nil => simp at hne | cons _ _ => simp
   have hr := ZgS (ts := ts) (ty := ty) (sLen := 0) (sCap := 0) (base := none) (olds := []) ht hu hi hisz hiby hzi hn hlen hfc1 (by simp [Builtin.firstCells]) (by omega) hby0 (by simpa using hb)
   have hI' : Inv φ (H ++ [Mem.row new z true]) w S B := hI.reheap (fun j l hj => .inl (by rw [List.getElem?_append_left (hI.live j l hj).2.2])) (by simp)
   have hφ : φ H.length = none := by
    cases hc : φ H.length with
    | none => rfl
    | some l => have := (hI.live _ l hc).2.2; omega
   have hge := grownCap_ge w (0 + new.length) 0 e
   obtain ⟨φ', S', h2, h3, h4⟩ := Zi0 (e := e) (zv := zv) (sLen := 0) (n := new.length) (olds := []) (vals := vals) (id := H.length) hI' hφ (by simp) (grownCap w (0 + new.length) 0 e) hge hwn (by simp) (by simpa using hv) ho hzvs
   refine ⟨_, _, φ', S', hr, h2, h3.mono (by simp), ?_⟩
   simpa using h4
 ·rename_i id j n room
  split at hop
  ·rename_i es z' hm
   obtain ⟨⟨hzz, hle⟩, hop⟩ := Zaq hop
   subst hzz
   simp only [VRel] at hs
   obtain ⟨l, ad, cp, hl, rfl, hncp0, hncp1, hcase⟩ := hs
   have hncp : n ≤ cp := Nat.le_trans hncp0 hncp1
   have hr := hI.row id l es z' true hl hm
   by_cases hne : new.isEmpty = true
   ·rw [if_pos hne] at hop
    cases hop
    have : new = [] := List.isEmpty_iff.1 hne
    subst this
    have hv0 : vals = [] := by simpa [VL] using hv
    subst hv0
    refine ⟨_, w, φ, S, ZdG (base := some ad) ht hu hz hn hlen hfc0 (by simpa using hncp) (by rfl), hI, Evo.refl _ _ _ _ _, ?_⟩
    simp only [VRel]; exact ⟨l, ad, cp, hl, by simp, hncp0, hncp1, hcase⟩
   ·rw [if_neg hne] at hop
    have hpos : 0 < new.length := by cases new with | nil => simp at hne | cons _ _ => simp
    by_cases hroom : n + new.length ≤ room
    ·rw [if_pos hroom] at hop
     obtain ⟨hes, hop⟩ := Zaq hop
     cases hop
     rcases hcase with ⟨h0, hc0⟩ | ⟨rfl, htop⟩
     ·omega
     ·obtain ⟨h1, h2, h3⟩ := Zf7 (P := P) (i := j + n) (new := new) hI hl hm hwn hv ho (by omega)
      have e1 : l.o + j * l.z + n * z' = l.o + (j + n) * z' := by rw [hr.zs, Nat.add_mul]; omega
      have hrun := ZdG (ts := ts) (ty := ty) (base := some ⟨l.b, l.o + j * l.z, none⟩) (w' := w.setCells l.b (l.o + (j + n) * z') vals) ht hu hz hn hlen hfc0 (Nat.le_trans hroom hncp1) (by
       show (storeCells ((⟨l.b, l.o + j * l.z, none⟩ : Addr).add (n * z')) vals).run P w = _
       rw [Addr.add_lit, e1]; exact h1)
      refine ⟨_, _, φ, S, hrun, h2, h3, ?_⟩
      simp only [VRel]
      exact ⟨l, _, cp, hl, rfl, hroom, hncp1, .inr ⟨rfl, htop⟩⟩
    rw [if_neg hroom] at hop
    obtain ⟨hb, hop⟩ := Zaq hop
    cases hop
    have hidl := (hI.live id l hl).2.2
    have hφ : φ H.length = none := by
     cases hc : φ H.length with
     | none => rfl
     | some l => have := (hI.live _ l hc).2.2; omega
    have hold : VE φ w S ((es.drop j).take n) l.b (l.o + j * l.z) := by rw [hr.zs]; exact VE.take n (VE.drop j hr.wid (by omega) hr.cells)
    have holdw : ∀ c ∈ (es.drop j).take n, c.length = z' := fun c hc => hr.wid c (List.mem_of_mem_drop (List.mem_of_mem_take hc))
    have holdl : ((es.drop j).take n).length = n := by rw [List.length_take, List.length_drop]; omega
    obtain ⟨olds, hov, hoo, hoc⟩ := VC.vals (VE.flat hold)
    have holen : olds.length = n * z' := by rw [VL.length hov, ZaL _ holdw, holdl]
    have hallw : ∀ c ∈ (es.drop j).take n ++ new, c.length = z' := fun c hc => (List.mem_append.1 hc).elim (holdw c) (hwn c)
    have hreheap : Inv φ (H.set id .dead ++ [Mem.row ((es.drop j).take n ++ new) z' true]) w S B := hI.reheap (fun k lk hk => by
     have hkl := (hI.live k lk hk).2.2
     rw [List.getElem?_append_left (by simpa using hkl)]
     by_cases hki : k = id
     ·subst hki; right; simp [hkl]
     ·left; rw [List.getElem?_set_ne (fun e => hki e.symm)]) (by simp)
    have hHnew : (H.set id .dead ++ [Mem.row ((es.drop j).take n ++ new) z' true])[H.length]? = some (.row ((es.drop j).take n ++ new) z' true) := by
     rw [List.getElem?_append_right (by simp)]; simp
    by_cases hfit : n + new.length ≤ cp
    ·
     rcases hcase with ⟨h0, hc0⟩ | ⟨rfl, htop⟩
     ·omega
     ·have hlz := hr.zs
      rw [hlz] at htop
      have hin : (j + n) * z' + new.length * z' ≤ l.top := by
       rw [← Nat.add_mul]
       exact Nat.le_trans (Nat.mul_le_mul_right _ (by omega)) htop
      have e1 : l.o + j * l.z + n * z' = l.o + (j + n) * z' := by rw [hlz, Nat.add_mul]; omega
      have hrow0 : ∀ k, k < vals.length → (w.cell? ⟨l.b, l.o + (j + n) * z' + k, none⟩).isSome = true ∧ w.frozen? ⟨l.b, l.o + (j + n) * z' + k, none⟩ = false := by
       intro k hk
       have := Zdb hr ((j + n) * z' + k) (by omega)
       rwa [← Nat.add_assoc] at this
      have hst := run_storeCells_cells (P := P) l.b (l.o + (j + n) * z') vals 0 w (fun k hk => by simpa using (hrow0 k hk).1) (fun k hk => by simpa using (hrow0 k hk).2) (ZjA hv ho)
      have hrun := ZdG (ts := ts) (ty := ty) (base := some ⟨l.b, l.o + j * l.z, none⟩) (w' := w.setCells l.b (l.o + (j + n) * z') vals) ht hu hz hn hlen hfc0 hfit (by
       show (storeCells ((⟨l.b, l.o + j * l.z, none⟩ : Addr).add (n * z')) vals).run P w = _
       rw [Addr.add_lit, e1]; simpa using hst)
      let l' : Loc := ⟨l.b, l.o + j * z', z', l.top - j * z'⟩
      let φ' : Phi := fun k => if k = H.length then some l' else φ k
      have hp : ∀ k lk, φ k = some lk → φ' k = some lk := by
       intro k lk hk
       show (if k = H.length then _ else φ k) = _
       rw [if_neg]
       ·exact hk
       ·rintro rfl; rw [hφ] at hk; cases hk
      have hns : ¬ S l.b := hr.own rfl
      have hs' : ∀ k, S k → S k ∧ (w.setCells l.b (l.o + (j + n) * z') vals).heap[k]? = w.heap[k]? := fun k hk => ⟨hk, Zbg _ _ _ _ _ (by rintro rfl; exact hns hk)⟩
      have hjm : (j + n) * z' = j * z' + n * z' := Nat.add_mul _ _ _
      have hpatch := hreheap.patch (w' := w.setCells l.b (l.o + (j + n) * z') vals) (id := H.length) (l := l') (φ' := φ') (H' := H.set id .dead ++ [Mem.row ((es.drop j).take n ++ new) z' true]) (if_pos rfl) (fun k hk => if_neg hk) (.inl hφ) hHnew (fun _ _ _ _ => .inl rfl) (Nat.le_refl _)
       (ZbE _ _ _ _) (Zcw _ _ _ _) (fun b hb => Zbg _ _ _ _ _ hb) hns (hI.live id l hl).1 (hI.live id l hl).2.1
       (by
        intro k lk m hk hlk hmk ha
        have hkl := (hI.live k lk hlk).2.2
        rw [List.getElem?_append_left (by simpa using hkl)] at hmk
        by_cases hki : k = id
        ·subst hki; simp [hkl] at hmk; subst hmk; simp [Mem.alive] at ha
        ·rw [List.getElem?_set_ne (fun e => hki e.symm)] at hmk
         exact hI.apart k id lk l m _ hki hlk hl hmk hm ha rfl)
       ⟨rfl, by simp only [List.length_append, holdl]; show (n + new.length) * z' ≤ l.top - j * z'; rw [Nat.add_mul]; omega, hallw, by
        refine VE.append holdw (VE.of_flat ?_) ?_
        ·have hkeep := VC.keep (φ' := φ') hp hs' _ _ (.inl (by rw [ZaL _ holdw, holdl, hlz]; omega)) (VE.flat hold)
         rw [hlz] at hkeep
         exact hkeep
        ·rw [holdl]
         show VE φ' _ S new l.b (l.o + j * z' + n * z')
         rw [show l.o + j * z' + n * z' = l.o + (j + n) * z' from by omega]
         exact VE.of_flat (VC.fresh hp hs' hv ho (fun k hk => (hrow0 k hk).1)), by
        obtain ⟨cur, e', fz, h1, h2, h3⟩ := hr.blk
        obtain ⟨cur', h4, h5⟩ := Zc6 l.b vals (l.o + (j + n) * z') w cur e' fz h1
        refine ⟨cur', e', fz, h4, ?_, fun hm' k hk => by rw [World.frozen?_setCells]; exact h3 rfl k (by omega)⟩
        show l.o + j * z' + (l.top - j * z') ≤ cur'.size
        omega, fun _ => hns, fun h => by cases h⟩
      refine ⟨_, _, φ', S, hrun, hpatch.1, hpatch.2.mono (by simp), ?_⟩
      simp only [VRel]
      refine ⟨l', _, cp, if_pos rfl, rfl, Nat.le_refl _, hfit, .inr ⟨by show _ = (⟨l.b, l.o + j * z' + 0 * z', none⟩ : Addr); rw [hlz]; simp, ?_⟩⟩
      show (0 + cp) * z' ≤ l.top - j * z'
      have : (j + cp) * z' = j * z' + cp * z' := Nat.add_mul _ _ _
      simp only [Nat.zero_add]
      omega
    ·
     have hfo : (Builtin.firstCells z' n (.slice (some ad) n cp)).run P w.drew = .ok olds.toArray w.drew := by
      rcases hcase with ⟨h0, _⟩ | ⟨rfl, _⟩
      ·subst h0
       have : olds = [] := List.length_eq_zero_iff.1 (by simpa using holen)
       subst this
       simp [Builtin.firstCells, loadCells, loadCellsFrom]
      ·have := run_loadCells_list (P := P) w.drew ⟨l.b, l.o + j * l.z, none⟩ olds (fun k v hk => by rw [Addr.add_lit]; exact hoc k v hk)
       rw [holen] at this
       simpa [Builtin.firstCells] using this
     have hrn := ZgS (ts := ts) (ty := ty) (sLen := n) (sCap := cp) (base := some ad) (olds := olds) ht hu hi hisz hiby hzi hn hlen hfc1 hfo (by omega) hby0 hb
     have hge := grownCap_ge w (n + new.length) cp e
     obtain ⟨φ', S', h2, h3, h4⟩ := Zi0 (e := e) (zv := zv) (sLen := n) (n := new.length) (olds := olds) (vals := vals) (id := H.length) hreheap hφ hHnew (grownCap w (n + new.length) cp e) hge hallw (by simp [holdl])
      (by rw [List.flatten_append]; exact VL.append hov hv) (by intro c hc; rw [List.flatten_append] at hc; exact (List.mem_append.1 hc).elim (hoo c) (ho c)) hzvs
     exact ⟨_, _, φ', S', hrn, h2, h3.mono (by simp), h4⟩
  ·cases hop
 ·cases hop
end
end Go.Am
/-
 Operations that write: each by its law.
-/
namespace Go.Am
variable [Laid]
open Go.RowKit
section
variable {P : Program} {h : Hints} {E : Ev} {w : World} {φ : Phi} {S : Nat → Prop} {B : Nat} {H : List Mem}
theorem ZnP {H : List Mem} {id : Nat} {m : Mem} (h : H[id]? = some m) : H.set id m = H := by
 apply List.ext_getElem?
 intro j
 by_cases hj : id = j
 ·subst hj
  rw [List.getElem?_set_self (List.getElem?_eq_some_iff.1 h).1, h]
 ·rw [List.getElem?_set_ne hj]
theorem ZfG {ts : Array TypeId} {ty : TypeId} {s x v : PV} {sv xv : Value} {H' : List Mem} (hI : Inv φ H w S B) (hop : ZdB P H ts s x = some (v, H')) (hs : VRel φ w S s sv) (hx : VRel φ w S x xv) :
 ∃ u w' φ' S', (Builtin.append_ ts ty #[sv, xv]).run P w = .ok u w' ∧ Inv φ' H' w' S' B ∧ Evo H.length B φ S w φ' S' w' ∧ VRel φ' w' S' v u := by
 unfold ZdB at hop
 obtain ⟨t, ht, hop⟩ := Zao hop
 obtain ⟨e, he, hop⟩ := Zao hop
 obtain ⟨z, hz, hop⟩ := Zao hop
 obtain ⟨by_, hby, hop⟩ := Zao hop
 obtain ⟨zero, hzc, hop⟩ := Zao hop
 obtain ⟨new, hsrc, hop⟩ := Zao hop
 obtain ⟨⟨hn, hb0, hz0, hzl, hh⟩, hop⟩ := Zaq hop
 exact Zj0 hI ht (Zdg he) hz hby hzc hsrc hn hb0 hz0 hzl hh hop hs hx
theorem Zm9 {ts : Array TypeId} {ty : TypeId} {d x v : PV} {dv xv : Value} {H' : List Mem} (hI : Inv φ H w S B) (hop : Zmr P H ts d x = some (v, H')) (hd : VRel φ w S d dv) (hx : VRel φ w S x xv) :
 ∃ u w', (Builtin.copy_ ts ty #[dv, xv]).run P w = .ok u w' ∧ Inv φ H' w' S B ∧ Evo H.length B φ S w φ S w' ∧ VRel φ w' S v u := by
 unfold Zmr at hop
 obtain ⟨t, ht, g1⟩ := Zao hop
 obtain ⟨e, he, g2⟩ := Zao g1
 obtain ⟨z, hz, g3⟩ := Zao g2
 obtain ⟨src, hsrc, g4⟩ := Zao g3
 obtain ⟨⟨hz0, hh⟩, g5⟩ := Zaq g4
 clear hop g1 g2 g3 g4
 have hop := g5
 clear g5
 have hu := Zdg he
 obtain ⟨hlen, hwn, vals, hv, ho, hfc⟩ := Zif (P := P) hI hsrc hx hh
 have ha0 : (#[dv, xv] : Array Value)[0]? = some dv := rfl
 have ha1 : (#[dv, xv] : Array Value)[1]? = some xv := rfl
 split at hop
 ·cases hop
  simp only [VRel] at hd; subst hd
  have hfc0 := hfc w 0 (Nat.zero_le _) (fun _ _ => rfl)
  refine ⟨.int .i64 0, w, ?_, hI, Evo.refl _ _ _ _ _, Za3 _ _⟩
  have hmin : Nat.min src.length 0 = 0 := Nat.min_zero _
  simp only [Builtin.copy_, ht, ha0, ha1, Sem.run_bind, run_underlying hu, Result.andThen_ok, hlen, ZaC hz, hmin, hfc0]
  rfl
 ·rename_i id i n room
  split at hop
  ·rename_i es z' hm
   obtain ⟨⟨hzz, hle⟩, hop⟩ := Zaq hop
   subst hzz
   cases hop
   simp only [VRel] at hd
   obtain ⟨l, ad, cp, hl, rfl, hncp0, hncp1, hcase⟩ := hd
   have hncp : n ≤ cp := Nat.le_trans hncp0 hncp1
   have hr := hI.row id l es z' true hl hm
   have hk : min src.length n ≤ src.length := Nat.min_le_left _ _
   have hkn : min src.length n ≤ n := Nat.min_le_right _ _
   have hfc0 := hfc w (min src.length n) hk (fun _ _ => rfl)
   have htk : (src.take n).length = min src.length n := by rw [List.length_take, Nat.min_comm]
   have hfl : (src.take n).flatten = src.flatten.take (min src.length n * z') := by
    have h1 : src.flatten = (src.take n).flatten ++ (src.drop n).flatten := by rw [← List.flatten_append, List.take_append_drop]
    have h2 : (src.take n).flatten.length = min src.length n * z' := by rw [ZaL _ (fun x hx => hwn x (List.mem_of_mem_take hx)), htk]
    rw [h1, ← h2, List.take_left' rfl]
   have hv' : VL φ w S (src.take n).flatten (vals.take (min src.length n * z')) := by rw [hfl]; exact VL.take _ hv
   have hrest : ∀ w', (storeCells ad (vals.take (min src.length n * z'))).run P w = .ok () w' → (Builtin.copy_ ts ty #[.slice (some ad) n cp, xv]).run P w = .ok (.int .i64 (min src.length n : Nat)) w' := by
    intro w' hst
    have hmin : Nat.min src.length n = min src.length n := rfl
    simp only [Builtin.copy_, ht, ha0, ha1, Sem.run_bind, run_underlying hu, Result.andThen_ok, hlen, ZaC hz, hmin, hfc0, List.toList_toArray, hst]
    rfl
   rcases hcase with ⟨h0, _⟩ | ⟨rfl, _⟩
   ·subst h0
    have e0 : src.take 0 = [] := rfl
    have e1 : min src.length 0 = 0 := Nat.min_zero _
    refine ⟨_, w, hrest w (by rw [e1]; simp [storeCells]), ?_, Evo.refl _ _ _ _ _, Za3 _ _⟩
    rw [e0, ZfQ, ZnP hm]
    exact hI
   ·obtain ⟨h1, h2, h3⟩ := Zf7 (P := P) (i := i) (new := src.take n) hI hl hm (fun c hc => hwn c (List.mem_of_mem_take hc)) hv' (fun c hc => ho c (by rw [hfl] at hc; exact List.mem_of_mem_take hc)) (by rw [htk]; omega)
    rw [hr.zs] at hrest ⊢
    exact ⟨_, _, hrest _ h1, h2, h3, Za3 _ _⟩
  ·cases hop
 ·cases hop
theorem ZkJ {ts : Array TypeId} {ty : TypeId} {d v : PV} {dv : Value} {H' : List Mem} (hI : Inv φ H w S B) (hop : Zk6 P H ts d = some (v, H')) (hd : VRel φ w S d dv) :
 ∃ u w', (Builtin.clear_ ts ty #[dv]).run P w = .ok u w' ∧ Inv φ H' w' S B ∧ Evo H.length B φ S w φ S w' ∧ VRel φ w' S v u := by
 unfold Zk6 at hop
 obtain ⟨t, ht, g1⟩ := Zao hop
 obtain ⟨e, he, g2⟩ := Zao g1
 obtain ⟨z, hz, g3⟩ := Zao g2
 obtain ⟨zero, hzc, g4⟩ := Zao g3
 obtain ⟨⟨hz0, hzl⟩, g5⟩ := Zaq g4
 clear hop g1 g2 g3 g4
 have hop := g5
 clear g5
 have hu := Zdg he
 obtain ⟨ti, zv, hti, hzi, hzv, hzo⟩ := ZbK (w := w) (φ := φ) (S := S) hzc
 have hzr : (zeroValue e).run P w = .ok zv w := by simp [zeroValue, typeInfo, hti, hzi]
 have hzvs : zv.cells.size = z := by have := VL.length hzv; simpa [hzl] using this
 have ha0 : (#[dv] : Array Value)[0]? = some dv := rfl
 have htup : VRel φ w S (.tup []) (.tuple #[]) := by simp only [VRel, VL]; exact ⟨#[], rfl, rfl⟩
 split at hop
 ·cases hop
  simp only [VRel] at hd; subst hd
  refine ⟨.tuple #[], w, ?_, hI, Evo.refl _ _ _ _ _, htup⟩
  simp only [Builtin.clear_, ht, ha0, Sem.run_bind, run_underlying hu, Result.andThen_ok]
  rfl
 ·rename_i id i n room
  split at hop
  ·rename_i es z' hm
   obtain ⟨⟨hzz, hle⟩, hop⟩ := Zaq hop
   subst hzz
   cases hop
   simp only [VRel] at hd
   obtain ⟨l, ad, cp, hl, rfl, hncp0, hncp1, hcase⟩ := hd
   have hncp : n ≤ cp := Nat.le_trans hncp0 hncp1
   have hr := hI.row id l es z' true hl hm
   cases n with
   | zero =>
    refine ⟨.tuple #[], w, ?_, ?_, Evo.refl _ _ _ _ _, htup⟩
    ·simp only [Builtin.clear_, ht, ha0, Sem.run_bind, run_underlying hu, Result.andThen_ok]
     rfl
    ·rw [List.replicate_zero, ZfQ, ZnP hm]; exact hI
   | succ n =>
    rcases hcase with ⟨h0, _⟩ | ⟨rfl, _⟩
    ·omega
    ·have hrep : ∀ k, VL φ w S (List.replicate k zero).flatten (List.replicate k zv.cells.toList).flatten := by
      intro k
      induction k with
      | zero => simp [VL]
      | succ k ih => simp only [List.replicate_succ, List.flatten_cons]; exact VL.append hzv ih
     obtain ⟨h1, h2, h3⟩ := Zf7 (P := P) (i := i) (new := List.replicate (n + 1) zero) hI hl hm (by intro c hc; rw [(List.mem_replicate.1 hc).2]; exact hzl) (hrep (n + 1))
      (by intro x hx; simp only [List.mem_flatten, List.mem_replicate] at hx; obtain ⟨y, ⟨_, rfl⟩, hx⟩ := hx; exact hzo x hx) (by simpa using hle)
     refine ⟨.tuple #[], _, ?_, h2, h3, ?_⟩
     ·have hzc2 : (Builtin.zeroCells zv.cells (n + 1)).toList = (List.replicate (n + 1) zv.cells.toList).flatten := by rw [ZgN]; exact Zch _ _
      simp only [Builtin.clear_, ht, ha0, Sem.run_bind, run_underlying hu, Result.andThen_ok, hzr, hzc2]
      rw [hr.zs, h1]
      rfl
     ·simp only [VRel, VL]; exact ⟨#[], rfl, rfl⟩
  ·cases hop
 ·cases hop
theorem ZkM (a b : ByteArray) : (a == b) = (a.data == b.data) := rfl
theorem ZsI {a b : ByteArray} (h : (a == b) = true) : a = b := by
 rw [ZkM] at h
 have := eq_of_beq h
 cases a; cases b; simp at this; simp [this]
theorem ZgH {key : ByteArray} {v : PV} {vv : Value} : ∀ {es es' : List (PV × PV)} {ents : List MapEntry} (i : Nat), ZgC key v es = some es' → VM φ w S es ents → VRel φ w S v vv →
 (∃ j u, Instr.findNow .string (.string key) ents i = some (some (i + j, u)) ∧ ∃ e, ents[j]? = some e ∧ e.key = .string key ∧ VM φ w S es' (ents.modify j fun e => { e with key := .string key, val := vv })) ∨
 (Instr.findNow .string (.string key) ents i = some none ∧ ∀ b, VM φ w S es' (ents ++ [{ key := .string key, val := vv, born := b }]))
 | [], es', ents, i, h, hv, hx => by
  simp only [ZgC, Option.some.injEq] at h; subst h
  simp only [VM] at hv; subst hv
  exact .inr ⟨rfl, fun b => ⟨_, [], rfl, Zdo _, hx, rfl⟩⟩
 | (k, u) :: es, es', ents, i, h, hv, hx => by
  obtain ⟨e, l', rfl, hk, hv1, hr⟩ := hv
  cases k <;> simp only [ZgC, ZiY] at h <;> try (cases h; done)
  rename_i st
  have hk' := hk
  simp only [VRel] at hk'
  by_cases hb : (key == st) = true
  ·rw [if_pos hb] at h
   cases h
   have hkst : key = st := ZsI hb
   left
   refine ⟨0, e.val, by simp only [Instr.findNow, hk', Instr.sameNow, hb, Nat.add_zero], e, rfl, by rw [hk', hkst], ?_⟩
   exact ⟨_, l', rfl, Zdo _, hx, hr⟩
  ·rw [if_neg hb] at h
   have hb' : (key == st) = false := by simpa using hb
   cases hr2 : ZgC key v es with
   | none => simp [hr2] at h
   | some es2 =>
    simp only [hr2, Option.map_some, Option.some.injEq] at h
    subst h
    have hfn : Instr.findNow .string (.string key) (e :: l') i = Instr.findNow .string (.string key) l' (i + 1) := by simp only [Instr.findNow, hk', Instr.sameNow, hb']
    rcases ZgH (i + 1) hr2 hr hx with ⟨j, u', h1, e2, h2, h3, h4⟩ | ⟨h1, h2⟩
    ·left
     refine ⟨j + 1, u', by rw [hfn, h1]; congr 3; omega, e2, by simpa using h2, h3, ?_⟩
     exact ⟨e, _, rfl, hk, hv1, h4⟩
    ·right
     exact ⟨by rw [hfn, h1], fun b => ⟨e, _, rfl, hk, hv1, h2 b⟩⟩
theorem Inv.patchMap {w' : World} {id : Nat} {l : Loc} {es es' : List (PV × PV)} {ents : Array MapEntry} {clock : Nat} (hI : Inv φ H w S B) (hl : φ id = some l) (hm : H[id]? = some (.map es)) (hstr : w'.os = w.os ∧ w'.tape = w.tape ∧ w'.output = w.output) (hsz : w'.heap.size = w.heap.size)
 (hblk : ∀ b, b ≠ l.b → w'.heap[b]? = w.heap[b]?) (hnew : w'.heap[l.b]? = some (.map ents clock)) (hv : VM φ w S es' ents.toList) : Inv φ (H.set id (.map es')) w' S B ∧ Evo H.length B φ S w φ S w' := by
 obtain ⟨hnS, _⟩ := hI.map id l es hl hm
 have hs : ∀ b, S b → S b ∧ w'.heap[b]? = w.heap[b]? := fun b hb => ⟨hb, hblk b (by rintro rfl; exact hnS hb)⟩
 have hidl := (hI.live id l hl).2.2
 have hget : ∀ j m, (H.set id (.map es'))[j]? = some m → (j = id ∧ m = .map es') ∨ (j ≠ id ∧ H[j]? = some m) := by
  intro j m hj
  by_cases hji : j = id
  ·subst hji; simp [hidl] at hj; exact .inl ⟨rfl, hj.symm⟩
  ·rw [List.getElem?_set_ne (fun e => hji e.symm)] at hj; exact .inr ⟨hji, hj⟩
 have hap : ∀ j lj m, j ≠ id → φ j = some lj → H[j]? = some m → m.alive = true → lj.b ≠ l.b := fun j lj m hj hlj hmj ha => hI.apart j id lj l m _ hj hlj hl hmj hm ha rfl
 refine ⟨⟨?_, ?_, ?_, ?_, fun b hb => by rw [hsz]; exact hI.stable b hb, by rw [hsz]; exact hI.base, Laid.mono _ _ _ _ hs hI.laid⟩, fun i x _ h => h, hs, fun _ _ hx => hx, hstr.1, hstr.2.1, hstr.2.2, by rw [hsz]; exact Nat.le_refl _, fun k hk => hblk k (by have := (hI.live id l hl).1; omega)⟩
 ·intro i x hx
  have := hI.live i x hx
  exact ⟨this.1, by rw [hsz]; exact this.2.1, by simpa using this.2.2⟩
 ·intro i x es0 z m hx hmi
  rcases hget i _ hmi with ⟨_, h0⟩ | ⟨hne, h0⟩
  ·cases h0
  ·exact (hI.row i x es0 z m hx h0).mono (fun _ _ h => h) hs (hblk _ (hap i x _ hne hx h0 rfl)) (fun y => y)
 ·intro i x es0 hx hmi
  rcases hget i _ hmi with ⟨rfl, h0⟩ | ⟨hne, h0⟩
  ·cases h0
   rw [hl] at hx; cases hx
   exact ⟨hnS, ents, clock, hnew, VM.mono (fun _ _ h => h) hs _ _ hv⟩
  ·obtain ⟨h3, en, cl, h4, h5⟩ := hI.map i x es0 hx h0
   exact ⟨h3, en, cl, by rw [hblk _ (hap i x _ hne hx h0 rfl)]; exact h4, VM.mono (fun _ _ h => h) hs _ _ h5⟩
 ·intro i j x y m m' hij hx hy hmi hmj ha ha'
  rcases hget i _ hmi with ⟨rfl, h0⟩ | ⟨hne, h0⟩
  ·rcases hget j _ hmj with ⟨rfl, _⟩ | ⟨hne2, h2⟩
   ·exact absurd rfl hij
   ·exact hI.apart _ _ x y _ _ hij hx hy hm h2 rfl ha'
  ·rcases hget j _ hmj with ⟨rfl, _⟩ | ⟨hne2, h2⟩
   ·exact hI.apart _ _ x y _ _ hij hx hy h0 hm ha rfl
   ·exact hI.apart _ _ x y _ _ hij hx hy h0 h2 ha ha'
theorem ZeC {r : Nat} {en en' : Array MapEntry} {c c' : Nat} (hb : w.heap[r]? = some (.map en c)) : (setObj r (.map en' c')).run P w = .ok () { w with heap := w.heap.setIfInBounds r (.map en' c') } := by
 simp [setObj, Sem.run, hb]
theorem Zi2 {t : TypeId} {m k x : PV} {mv kv xv : Value} {H' : List Mem} {v : PV} (hI : Inv φ H w S B) (hop : Zsu P H t (some m) (some k) (some x) = some (v, H')) (hm : VRel φ w S m mv) (hk : VRel φ w S k kv) (hx : VRel φ w S x xv) :
 ∃ w', (Instr.mapUpdate t mv kv xv).run P w = .ok () w' ∧ v = .tup [] ∧ Inv φ H' w' S B ∧ Evo H.length B φ S w φ S w' := by
 unfold Zsu at hop
 obtain ⟨e, he, g1⟩ := Zao hop
 simp only [Option.bind_some] at g1
 obtain ⟨key, hkey, g2⟩ := Zao g1
 clear hop g1
 have hkk := Zjd hkey
 subst hkk
 simp only [VRel] at hk; subst hk
 obtain ⟨kt, hu, hks⟩ := Zh7 he
 split at g2
 ·rename_i id
  split at g2
  ·rename_i es hmem
   cases hp : ZgC key x es with
   | none => simp [hp] at g2
   | some es' =>
    simp only [hp, Option.map_some, Option.some.injEq, Prod.mk.injEq] at g2
    obtain ⟨rfl, rfl⟩ := g2
    simp only [VRel] at hm
    obtain ⟨l, hl, rfl⟩ := hm
    obtain ⟨_, ents, clock, hb, hv⟩ := hI.map id l es hl hmem
    have hlt := (hI.live id l hl).2.1
    have hgo : (getObj l.b).run P w = .ok (.map ents clock) w := by simp [getObj, Sem.run, hb]
    have hset : ∀ (en' : Array MapEntry) (c' : Nat), VM φ w S es' en'.toList → Inv φ (H.set id (.map es')) { w with heap := w.heap.setIfInBounds l.b (.map en' c') } S B ∧ Evo H.length B φ S w φ S { w with heap := w.heap.setIfInBounds l.b (.map en' c') } := by
     intro en' c' hv'
     refine hI.patchMap (clock := c') hl hmem ⟨rfl, rfl, rfl⟩ (by simp) (fun b hb' => ?_) ?_ hv'
     ·simp only [Array.getElem?_setIfInBounds]
      rw [if_neg (fun e => hb' e.symm)]
     ·simp only [Array.getElem?_setIfInBounds]
      simp [hlt]
    rcases ZgH 0 hp hv hx with ⟨j, u, h1, e2, h2, h3, h4⟩ | ⟨h1, h2⟩
    ·have hfk : (Instr.findKey kt (.string key) ents.toList).run P w = .ok (some (0 + j, u)) w := by simp [Instr.findKey, run_underlying hks, h1]
     have hs := hset (ents.modify (0 + j) fun e => { e with key := .string key, val := xv }) clock (by rw [Array.toList_modify, Nat.zero_add]; exact h4)
     have h2' : ents[0 + j]? = some e2 := by rw [Nat.zero_add]; simpa using h2
     have hbb : (key == key) = true := by rw [ZkM]; exact beq_self_eq_true _
     have hks2 : (Instr.keyThatStays (((ents[0 + j]?).map (·.key)).getD (.string key)) (.string key)).run P w = .ok (.string key) w := by
      rw [h2']
      simp only [Option.map_some, Option.getD_some, h3, Instr.keyThatStays, Instr.sameBits, hbb, if_true, Sem.run_pure]
     refine ⟨_, ?_, rfl, hs.1, hs.2⟩
     simp only [Instr.mapUpdate, Sem.run_bind, run_underlying hu, Result.andThen_ok, hgo, Zbe hks, hfk, hks2, ZeC hb]
    ·have hfk : (Instr.findKey kt (.string key) ents.toList).run P w = .ok none w := by simp [Instr.findKey, run_underlying hks, h1]
     have hs := hset (ents.push { key := .string key, val := xv, born := clock }) (clock + 1) (by rw [Array.toList_push]; exact h2 clock)
     refine ⟨_, ?_, rfl, hs.1, hs.2⟩
     simp only [Instr.mapUpdate, Sem.run_bind, run_underlying hu, Result.andThen_ok, hgo, Zbe hks, hfk, ZeC hb]
  ·cases g2
 ·cases g2
variable {tm : List (Nat × PV)} {N : Nat} {o : Oper} {a : Act} {K : Act → World → Prop} {Q : Exit → Act → World → Prop}
theorem Zgl {w' : World} (h : (execOp a.eval o).run P w = .ok .skip w') (hk : K (a.put o.dst undef) w') : o.wp P a w K Q := by
 unfold Oper.wp; rw [h]; exact hk
theorem ZaM (H : List Mem) (i j : Nat) : (freeze1 H i)[j]? = H[j]? ∨ (i = j ∧ ∃ es z m, H[j]? = some (.row es z m) ∧ (freeze1 H i)[j]? = some (.row es z false)) := by
 unfold freeze1
 split
 ·rename_i es z m hm
  by_cases hij : i = j
  ·subst hij
   right
   exact ⟨rfl, es, z, m, hm, by simp [(List.getElem?_eq_some_iff.1 hm).1]⟩
  ·left; rw [List.getElem?_set_ne hij]
 ·exact .inl rfl
theorem ZbC (H : List Mem) (i : Nat) : (freeze1 H i).length = H.length := by
 unfold freeze1; split <;> simp
theorem ZaJ : ∀ (ids : List Nat) (H : List Mem), (freeze ids H).length = H.length
 | [], H => rfl
 | i :: ids, H => by show (freeze ids (freeze1 H i)).length = _; rw [ZaJ ids, ZbC]
theorem Inv.freeze1 (hI : Inv φ H w S B) (i : Nat) : ∃ S', Inv φ (freeze1 H i) w S' B ∧ Evo H.length B φ S w φ S' w ∧ (∀ l es z m, φ i = some l → H[i]? = some (.row es z m) → S' l.b) := by
 cases hl : φ i with
 | none =>
  refine ⟨S, ⟨fun j l h => by rw [ZbC]; exact hI.live j l h, ?_, ?_, ?_, hI.stable, hI.base, hI.laid⟩, Evo.refl _ _ _ _ _, fun l es z m h => by cases h⟩
  ·intro j l es z m hj hm
   rcases ZaM H i j with h | ⟨rfl, _⟩
   ·exact hI.row j l es z m hj (by rw [← h]; exact hm)
   ·rw [hl] at hj; cases hj
  ·intro j l es hj hm
   rcases ZaM H i j with h | ⟨rfl, _⟩
   ·exact hI.map j l es hj (by rw [← h]; exact hm)
   ·rw [hl] at hj; cases hj
  ·intro j k x y m m' hjk hx hy hm hm' ha ha'
   rcases ZaM H i j with h | ⟨rfl, _⟩
   ·rcases ZaM H i k with h' | ⟨rfl, _⟩
    ·exact hI.apart j k x y m m' hjk hx hy (by rw [← h]; exact hm) (by rw [← h']; exact hm') ha ha'
    ·rw [hl] at hy; cases hy
   ·rw [hl] at hx; cases hx
 | some l =>
  by_cases hrow : ∃ es z m, H[i]? = some (.row es z m)
  ·obtain ⟨es, z, m, hm⟩ := hrow
   let S' : Nat → Prop := fun b => S b ∨ b = l.b
   have hs : ∀ b, S b → S' b ∧ w.heap[b]? = w.heap[b]? := fun b hb => ⟨.inl hb, rfl⟩
   have hB := (hI.live i l hl).1
   have halive : ∀ (j : Nat) (m' : Mem), (Am.freeze1 H i)[j]? = some m' → m'.alive = true → ∃ m2 : Mem, H[j]? = some m2 ∧ m2.alive = true := by
    intro j m' hj ha
    rcases ZaM H i j with h | ⟨rfl, es2, z2, m2, h1, h2⟩
    ·exact ⟨m', by rw [← h]; exact hj, ha⟩
    ·exact ⟨_, h1, rfl⟩
   refine ⟨S', ⟨fun j l h => by rw [ZbC]; exact hI.live j l h, ?_, ?_, ?_, ?_, hI.base, Laid.mono _ _ _ _ hs hI.laid⟩, ⟨fun _ _ _ h => h, hs, fun b hb h => h.elim id (fun h => by omega), Below.refl _ _⟩, fun l' es z m h _ => by cases h; exact .inr rfl⟩
   ·intro j lj es2 z2 m2 hj hm2
    rcases ZaM H i j with h | ⟨rfl, es3, z3, m3, h1, h2⟩
    ·have hm3 : H[j]? = some (.row es2 z2 m2) := by rw [← h]; exact hm2
     by_cases hij : i = j
     ·subst hij
      rw [hl] at hj; cases hj
      have hrr := hI.row i l es2 z2 m2 hl hm3
      refine ⟨hrr.zs, hrr.top, hrr.wid, VE.mono (fun _ _ h => h) hs _ _ _ rfl hrr.cells, hrr.blk, ?_, fun _ => .inr rfl⟩
      intro hmt
      have : (Am.freeze1 H i)[i]? = some (.row es z false) := by unfold Am.freeze1; rw [hm]; simp [(List.getElem?_eq_some_iff.1 hm).1]
      rw [this] at hm2; cases hm2; cases hmt
     ·refine (hI.row j lj es2 z2 m2 hj hm3).mono (fun _ _ h => h) hs rfl ?_
      rintro (h' | h')
      ·exact h'
      ·exact absurd h' (hI.apart j i lj l _ _ (fun e => hij e.symm) hj hl hm3 hm rfl rfl)
    ·rw [h2] at hm2; cases hm2
     rw [hl] at hj; cases hj
     have hrr := hI.row i l _ _ m3 hl h1
     exact ⟨hrr.zs, hrr.top, hrr.wid, VE.mono (fun _ _ h => h) hs _ _ _ rfl hrr.cells, by
      obtain ⟨cur, e, fz, h1, h2, _⟩ := hrr.blk
      exact ⟨cur, e, fz, h1, h2, fun h => by cases h⟩, fun h => by (cases h), fun _ => .inr rfl⟩
   ·intro j lj es2 hj hm2
    rcases ZaM H i j with h | ⟨rfl, es3, z3, m3, h1, h2⟩
    ·have hm3 : H[j]? = some (.map es2) := by rw [← h]; exact hm2
     have hij : j ≠ i := by rintro rfl; rw [hm] at hm3; cases hm3
     obtain ⟨h4, ents, clock, h5, h6⟩ := hI.map j lj es2 hj hm3
     refine ⟨?_, ents, clock, h5, VM.mono (fun _ _ h => h) hs _ _ h6⟩
     rintro (h' | h')
     ·exact h4 h'
     ·exact absurd h' (hI.apart j i lj l _ _ hij hj hl hm3 hm rfl rfl)
    ·rw [h2] at hm2; cases hm2
   ·intro j k x y m1 m2 hjk hx hy hm1 hm2 ha ha'
    obtain ⟨m1', h1, ha1⟩ := halive j m1 hm1 ha
    obtain ⟨m2', h2, ha2⟩ := halive k m2 hm2 ha'
    exact hI.apart j k x y _ _ hjk hx hy h1 h2 ha1 ha2
   ·rintro b (hb | rfl)
    ·exact hI.stable b hb
    ·exact (hI.live i l hl).2.1
  ·have : Am.freeze1 H i = H := by
    unfold Am.freeze1
    split
    ·rename_i es z m hm; exact absurd ⟨es, z, m, hm⟩ hrow
    ·rfl
   rw [this]
   exact ⟨S, hI, Evo.refl _ _ _ _ _, fun l es z m _ hm => absurd ⟨es, z, m, hm⟩ hrow⟩
theorem Inv.freeze : ∀ (ids : List Nat) {H : List Mem} {S : Nat → Prop}, Inv φ H w S B → ∃ S', Inv φ (freeze ids H) w S' B ∧ Evo H.length B φ S w φ S' w ∧ (∀ i ∈ ids, ∀ l es z m, φ i = some l → H[i]? = some (.row es z m) → S' l.b)
 | [], H, S, hI => ⟨S, hI, Evo.refl _ _ _ _ _, by simp⟩
 | i :: ids, H, S, hI => by
  obtain ⟨S1, h1, h2, h3⟩ := hI.freeze1 i
  obtain ⟨S2, h4, h5, h6⟩ := Inv.freeze ids h1
  refine ⟨S2, h4, h2.trans (by rw [ZbC] at h5; exact h5), ?_⟩
  intro j hj l es z m hl hm
  rcases List.mem_cons.1 hj with rfl | hj
  ·exact (h5.st _ (h3 l es z m hl hm)).1
  ·rcases ZaM H i j with h | ⟨rfl, es3, z3, m3, h7, h8⟩
   ·exact h6 j hj l es z m hl (by rw [h]; exact hm)
   ·exact h6 i hj l es3 z3 false hl h8
end
end Go.Am
/-
 The same operation over a heap with more in it. An operation in its place.
-/
namespace Go.Am
variable [Laid]
open Go.RowKit
def Sub (H Hs : List Mem) : Prop := ∀ (id : Nat) (m : Mem), H[id]? = some m → ∃ m', Hs[id]? = some m' ∧ simM m m'
section
variable {P : Program} {h : Hints} {E : Ev} {H Hs : List Mem}
theorem Sub.row (hs : Sub H Hs) {id : Nat} {es : List (List PV)} {z : Nat} {m : Bool} (h : H[id]? = some (.row es z m)) : ∃ m', Hs[id]? = some (.row es z m') := by
 obtain ⟨m', h1, h2⟩ := hs id _ h
 cases m' <;> simp [simM] at h2
 obtain ⟨rfl, rfl⟩ := h2
 exact ⟨_, h1⟩
theorem Sub.map (hs : Sub H Hs) {id : Nat} {es : List (PV × PV)} (h : H[id]? = some (.map es)) : Hs[id]? = some (.map es) := by
 obtain ⟨m', h1, h2⟩ := hs id _ h
 cases m' <;> simp [simM] at h2
 subst h2
 exact h1
theorem ZpB (hs : Sub H Hs) {x : PV} {es : List (List PV)} (he : elems H x = some es) : elems Hs x = some es := by
 cases x <;> simp only [elems] at he ⊢ <;> try exact he
 rename_i id i n room
 split at he
 ·rename_i hm
  obtain ⟨m', hm'⟩ := hs.row hm
  rw [hm']; exact he
 ·cases he
theorem Zm3 (hs : Sub H Hs) {t : TypeId} {x p : PV} (he : ZbB P H t x = some p) : ZbB P Hs t x = some p := by
 cases x <;> simp only [ZbB] at he ⊢ <;> try exact he
 split at he
 ·rename_i hm
  obtain ⟨m', hm'⟩ := hs.row hm
  rw [hm']; exact he
 ·cases he
theorem Zne (hs : Sub H Hs) {s d : TypeId} {x p : PV} (he : Zcq P H s d x = some p) : Zcq P Hs s d x = some p := by
 unfold Zcq at he ⊢
 split at he
 ·exact he
 ·exact he
 ·exact he
 ·exact he
 ·split at he
  ·obtain ⟨es, h1, h2⟩ := Zao he
   simp only [ZpB hs h1, Option.bind_some]
   exact h2
  ·cases he
 ·cases he
theorem Zlr (hs : Sub H Hs) {t : TypeId} {x p : PV} {lo hi mx : Option PV} (he : Zcg P H t x lo hi mx = some p) : Zcg P Hs t x lo hi mx = some p := by
 unfold Zcg at he ⊢
 split at he
 ·exact he
 ·exact he
 ·obtain ⟨z, h1, he⟩ := Zao he
  obtain ⟨⟨l, k, x⟩, h2, he⟩ := Zao he
  simp only [h1, h2, Option.bind_some]
  simp only [] at he
  split at he
  ·rename_i hm
   obtain ⟨m', hm'⟩ := hs.row hm
   rw [hm']; exact he
  ·cases he
 ·exact he
 ·cases he
theorem ZgU (hs : Sub H Hs) {t : TypeId} {x ix p : PV} (he : Zar P H t x ix = some p) : Zar P Hs t x ix = some p := by
 unfold Zar at he ⊢
 split at he
 ·split at he
  ·exact he
  ·obtain ⟨z, h1, he⟩ := Zao he
   simp only [h1, Option.bind_some]
   obtain ⟨hb, he⟩ := Zaq he
   rw [if_pos hb]
   split at he
   ·rename_i hm
    obtain ⟨m', hm'⟩ := hs.row hm
    rw [hm']; exact he
   ·cases he
  ·exact he
  ·exact he
  ·cases he
 ·cases he
theorem Zo1 (hs : Sub H Hs) {t : TypeId} {x p : PV} (he : Zd1 P H t x = some p) : Zd1 P Hs t x = some p := by
 unfold Zd1 at he ⊢
 split at he <;> try exact he
 split at he
 ·rename_i hm
  rw [hs.map hm]; exact he
 ·cases he
theorem Zo9 (hs : Sub H Hs) {x : PV} {es : List (PV × PV)} (he : Zms H x = some es) : Zms Hs x = some es := by
 cases x <;> simp only [Zms] at he ⊢ <;> try exact he
 split at he
 ·rename_i hm
  rw [hs.map hm]; exact he
 ·cases he
theorem ZjN (hs : Sub H Hs) {t : TypeId} {x k p : PV} {ok : Bool} (he : Zed P H t x k ok = some p) : Zed P Hs t x k ok = some p := by
 unfold Zed at he ⊢
 obtain ⟨e, h1, he⟩ := Zao he
 obtain ⟨key, h2, he⟩ := Zao he
 obtain ⟨es, h3, he⟩ := Zao he
 simp only [h1, h2, Zo9 hs h3, Option.bind_some]
 exact he
theorem Zjo (hs : Sub H Hs) {b : Builtin} {ts : Array TypeId} {vs : List PV} {p : PV} (he : Zct P H b ts vs = some p) : Zct P Hs b ts vs = some p := by
 unfold Zct at he ⊢
 split at he
 ·obtain ⟨t, h1, he⟩ := Zao he
  simp only [h1, Option.bind_some]
  exact Zo1 hs he
 ·exact he
 ·exact he
 ·cases he
theorem Ze7 {α β : Type} {f g : α → Option β} : ∀ {l : List α} {r : List β}, (∀ x ∈ l, ∀ b, f x = some b → g x = some b) → ZaO f l = some r → ZaO g l = some r
 | [], r, _, h => h
 | x :: l, r, hfg, h => by
  obtain ⟨b, s, h1, h2, rfl⟩ := ZaA h
  rw [Zfd, hfg x List.mem_cons_self b h1]
  simp only [Option.bind_some]
  rw [Ze7 (fun y hy => hfg y (List.mem_cons_of_mem _ hy)) h2]
  rfl
theorem Zb7 {α β : Type} {f g : α → List β} : ∀ {l : List α}, (∀ x ∈ l, f x = g x) → l.flatMap f = l.flatMap g
 | [], _ => rfl
 | x :: l, h => by rw [List.flatMap_cons, List.flatMap_cons, h x List.mem_cons_self, Zb7 fun y hy => h y (List.mem_cons_of_mem _ hy)]
theorem ZcL {α β : Type} {f : α → Option β} : ∀ {l : List α} {r : List β}, ZaO f l = some r → ∀ x ∈ l, ∃ b, f x = some b
 | [], r, _, x, hx => by simp at hx
 | y :: l, r, h, x, hx => by
  obtain ⟨b, s, h1, h2, rfl⟩ := ZaA h
  rcases List.mem_cons.1 hx with rfl | hx
  ·exact ⟨b, h1⟩
  ·exact ZcL h2 x hx
theorem Zjv (hs : Sub H Hs) : ∀ (n : Nat) (v q : PV), exp n H v = some q → exp n Hs v = some q ∧ rch n Hs v = rch n H v
 | 0, v, q, h => by simp [exp] at h
 | n + 1, v, q, h => by
  have ih := Zjv hs n
  have ihl : ∀ (l r : List PV), ZaO (exp n H) l = some r → ZaO (exp n Hs) l = some r ∧ l.flatMap (rch n Hs) = l.flatMap (rch n H) := by
   intro l r hl
   refine ⟨Ze7 (fun x _ b hb => (ih x b hb).1) hl, Zb7 fun x hx => ?_⟩
   obtain ⟨b, hb⟩ := ZcL hl x hx
   exact (ih x b hb).2
  cases v with
  | ref id i l room =>
   simp only [exp, rch] at h ⊢
   split at h
   ·rename_i es z m hm
    obtain ⟨m', hm'⟩ := hs.row hm
    obtain ⟨hle, h⟩ := Zaq h
    cases he : ZaO (ZaO (exp n H)) ((es.drop i).take l) with
    | none => simp [he] at h
    | some qs =>
     have h1 : ZaO (ZaO (exp n Hs)) ((es.drop i).take l) = some qs := Ze7 (fun x _ b hb => (ihl x b hb).1) he
     refine ⟨by simp only [hm', if_pos hle, h1]; rw [he] at h; exact h, ?_⟩
     simp only [hm', hm]
     congr 1
     exact Zb7 fun x hx => by
      obtain ⟨b, hb⟩ := ZcL he x hx
      exact (ihl x b hb).2
   ·cases h
  | ptr id i r =>
   simp only [exp, rch] at h ⊢
   split at h
   ·rename_i es z m hm
    obtain ⟨m', hm'⟩ := hs.row hm
    obtain ⟨c, hc, h⟩ := Zao h
    cases he : ZaO (exp n H) c with
    | none => simp [he] at h
    | some qs =>
     obtain ⟨h1, h2⟩ := ihl c qs he
     refine ⟨by simp only [hm', hc, Option.bind_some, h1]; rw [he] at h; exact h, ?_⟩
     simp only [hm', hm, hc, Option.getD_some, h2]
   ·cases h
  | func f a c =>
   simp only [exp, rch] at h ⊢
   obtain ⟨a', h1, h⟩ := Zao h
   cases h2 : ZaO (exp n H) c with
   | none => simp [h2] at h
   | some c' =>
    obtain ⟨h3, h4⟩ := ihl a a' h1
    obtain ⟨h5, h6⟩ := ihl c c' h2
    exact ⟨by rw [h3, h5]; rw [h2] at h; exact h, by rw [h4, h6]⟩
  | agg cs =>
   simp only [exp, rch] at h ⊢
   cases h2 : ZaO (exp n H) cs with
   | none => simp [h2] at h
   | some c' =>
    obtain ⟨h5, h6⟩ := ihl cs c' h2
    exact ⟨by rw [h5]; rw [h2] at h; exact h, h6⟩
  | tup cs =>
   simp only [exp, rch] at h ⊢
   cases h2 : ZaO (exp n H) cs with
   | none => simp [h2] at h
   | some c' =>
    obtain ⟨h5, h6⟩ := ihl cs c' h2
    exact ⟨by rw [h5]; rw [h2] at h; exact h, h6⟩
  | map id => simp [exp] at h
  | _ => exact ⟨by simpa only [exp] using h, rfl⟩
theorem Zjc (hs : Sub H Hs) {f : FuncId} {args : List PV} {base : Nat} {r : PV × List Mem × List Nat} (hc : Zfk h E f args H base = some r) : Zfk h E f args Hs base = some r := by
 unfold Zfk at hc ⊢
 obtain ⟨qs, h1, hc⟩ := Zao hc
 have h2 : ZaO (exp ZaD Hs) args = some qs := Ze7 (fun x _ b hb => (Zjv hs _ x b hb).1) h1
 have h3 : args.flatMap (rch ZaD Hs) = args.flatMap (rch ZaD H) := Zb7 fun x hx => by
  obtain ⟨b, hb⟩ := ZcL h1 x hx
  exact (Zjv hs _ x b hb).2
 rw [h2, Option.bind_some]
 unfold ZvF Znf at hc ⊢
 rw [h3]
 exact hc
theorem Zeu {x y : Option PV} (hxy : ∀ p, x = some p → y = some p) {r : PV × List Mem × List Nat} (hv : val x = some r) : val y = some r := by
 cases x with
 | none => simp [val] at hv
 | some p => rw [hxy p rfl]; exact hv
theorem Zok (hs : Sub H Hs) {base : Nat} {ρ : Operand → Option PV} {o : Oper} {r : PV × List Mem × List Nat} (ho : opR P h E H base ρ o = some r) : opR P h E Hs base ρ o = some r := by
 unfold opR at ho ⊢
 cases hop : o.op <;> simp only [hop] at ho ⊢ <;> try exact ho
 ·exact Zeu (fun p hp => by
   unfold Ziw at hp ⊢
   obtain ⟨q, h1, h2⟩ := Zao hp
   simp only [h1, Option.bind_some]; exact Zm3 hs h2) ho
 ·exact Zeu (fun p hp => by
   unfold Zqr at hp ⊢
   obtain ⟨q, h1, h2⟩ := Zao hp
   simp only [h1, Option.bind_some]; exact Zne hs h2) ho
 ·exact Zeu (fun p hp => by
   unfold Zdc at hp ⊢
   obtain ⟨q, h1, hp⟩ := Zao hp
   obtain ⟨l, h2, hp⟩ := Zao hp
   obtain ⟨k, h3, hp⟩ := Zao hp
   obtain ⟨m, h4, hp⟩ := Zao hp
   simp only [h1, h2, h3, h4, Option.bind_some]; exact Zlr hs hp) ho
 ·exact Zeu (fun p hp => by
   unfold Za2 at hp ⊢
   obtain ⟨q, r, h1, h2, h3⟩ := ZmM hp
   simp only [h1, h2, Option.bind_some]; exact ZgU hs h3) ho
 ·exact Zeu (fun p hp => by
   unfold Zmi at hp ⊢
   obtain ⟨q, r, h1, h2, h3⟩ := ZmM hp
   simp only [h1, h2, Option.bind_some]; exact ZjN hs h3) ho
 ·rename_i c
  unfold Zgw at ho ⊢
  cases hc : c.callee with
  | builtin b =>
   simp only [hc] at ho ⊢
   exact Zeu (fun p hp => by
    unfold ZbD at hp ⊢
    obtain ⟨q, h1, h2⟩ := Zao hp
    simp only [h1, Option.bind_some]; exact Zjo hs h2) ho
  | value x =>
   cases x <;> simp only [hc] at ho ⊢ <;> try exact ho
   unfold Zd2 at ho ⊢
   obtain ⟨hn, ho⟩ := Zh9 ho
   rw [if_neg hn]
   obtain ⟨vs, h1, h2⟩ := Zao ho
   simp only [h1, Option.bind_some]
   exact Zjc hs h2
  | invoke _ _ => simp only [hc] at ho; cases ho
theorem Zda : ∀ (ids : List Nat) (H : List Mem), ∀ (j : Nat) (m : Mem), H[j]? = some m → ∃ m', (freeze ids H)[j]? = some m' ∧ simM m m'
 | [], H, j, m, h => ⟨m, h, simM.refl m⟩
 | i :: ids, H, j, m, h => by
  show ∃ m', (freeze ids (freeze1 H i))[j]? = some m' ∧ simM m m'
  rcases ZaM H i j with h1 | ⟨rfl, es, z, b, h1, h2⟩
  ·exact Zda ids (freeze1 H i) j m (by rw [h1]; exact h)
  ·obtain ⟨m', h3, h4⟩ := Zda ids (freeze1 H i) i _ h2
   rw [h] at h1; cases h1
   refine ⟨m', h3, ?_⟩
   cases m' <;> simp [simM] at h4 ⊢
   exact h4
theorem Zet : ∀ (ids : List Nat) (H : List Mem) (j : Nat) (es : List (List PV)) (z : Nat) (m : Bool), (freeze ids H)[j]? = some (.row es z m) → ∃ m', H[j]? = some (.row es z m')
 | [], H, j, es, z, m, h => ⟨m, h⟩
 | i :: ids, H, j, es, z, m, h => by
  obtain ⟨m', h1⟩ := Zet ids (freeze1 H i) j es z m h
  rcases ZaM H i j with h2 | ⟨rfl, es', z', b, h2, h3⟩
  ·exact ⟨m', by rw [← h2]; exact h1⟩
  ·rw [h3] at h1; cases h1; exact ⟨b, h2⟩
theorem Sub.freeze (ids : List Nat) (H ms : List Mem) : Sub H (freeze ids H ++ ms) := by
 intro j m h
 obtain ⟨m', h1, h2⟩ := Zda ids H j m h
 exact ⟨m', by rw [List.getElem?_append_left (List.getElem?_eq_some_iff.1 h1).1]; exact h1, h2⟩
theorem ZoS (H : List Mem) (x : Option PV) : ZbX H x = ZiB H (val x) := by cases x <;> simp [ZbX, ZiB, val, freeze]
theorem Zpj {ρ : Operand → Option PV} {o : Oper} (hw : isW h o = false) : opA P h E H ρ o = ZiB H (opR P h E H H.length ρ o) := by
 unfold isW at hw
 unfold opA opR
 cases hop : o.op <;> simp only [hop, ZoS] at hw ⊢ <;> try (first | rfl | (simp at hw; done))
 rename_i c
 unfold Zw7 at hw
 unfold Zjz Zgw
 cases hc : c.callee with
 | builtin b => cases b <;> simp only [hc, ZoS] at hw ⊢ <;> first | rfl | (simp at hw; done)
 | value x =>
  cases x <;> simp only [hc] at hw ⊢ <;> try (simp at hw; done)
  unfold Zd2
  rw [if_neg (by simp [hw]), if_neg (by simp [hw])]
 | invoke _ _ => simp [hc] at hw
theorem Zs8 {ρ : Operand → Option PV} {o : Oper} (hw : isW h o = true) : opA P h E H ρ o = opW P h E H ρ o := by
 unfold isW at hw
 unfold opA opW
 cases hop : o.op <;> simp only [hop] at hw ⊢ <;> try (first | rfl | (simp at hw; done))
 rename_i c
 unfold Zw7 at hw
 unfold Zjz ZqI
 cases hc : c.callee with
 | builtin b => cases b <;> simp only [hc] at hw ⊢ <;> first | rfl | (simp at hw; done)
 | value x =>
  cases x <;> simp only [hc] at hw ⊢
  rw [if_pos (by simpa using hw)]
 | invoke _ _ => rfl
end
end Go.Am
/-
 An operation in its place; a row of operations in the order of the text.
-/
namespace Go.Am
variable [Laid]
open Go.RowKit
section
variable {P : Program} {h : Hints} {E : Ev} {w : World} {φ : Phi} {S : Nat → Prop} {B : Nat} {H H' : List Mem} {tm : List (Nat × PV)} {N : Nat} {o : Oper} {a : Act} {K : Act → World → Prop} {Q : Exit → Act → World → Prop}
theorem Zlp {H' : List Mem} (hI : Inv φ H w S B) (hlen : H'.length = H.length) (ms : List Mem) : Zu7 (H' ++ ms) φ H.length ms := by
 intro j m hm
 refine ⟨m, ?_, .inl rfl, ?_⟩
 ·rw [List.getElem?_append_right (by omega), hlen]
  rw [show H.length + j - H.length = j from by omega]
  exact hm
 ·cases hc : φ (H.length + j) with
  | none => rfl
  | some l => have := (hI.live _ l hc).2.2; omega
theorem Ze0 (hG : Good P h E) (hI : Inv φ H w S B) {f : FuncId} {args : List PV} {vals : List Value} {v : PV} (hc : Zcl h E f args H = some (v, H')) (hv : VL φ w S args vals) :
 Zun P f ∧ Calls P f vals.toArray w (ZvO H' H.length B φ S w v) := by
 unfold Zcl at hc
 by_cases ho : h.opn f = true
 ·rw [if_pos ho] at hc
  exact ⟨hG.fnOk f (.inl ⟨_, _, _, hc⟩), hG.rn f args H v H' hc φ S w B vals hI hv⟩
 ·rw [if_neg ho] at hc
  cases hr : Zfk h E f args H H.length with
  | none => simp [hr] at hc
  | some x =>
   obtain ⟨q, ms, fz⟩ := x
   simp only [hr, Option.map_some, Option.some.injEq, Prod.mk.injEq] at hc
   obtain ⟨rfl, rfl⟩ := hc
   obtain ⟨S1, h1, h2, h3⟩ := hI.freeze fz
   have hlen := ZaJ fz H
   have hI1 : Inv φ (freeze fz H ++ ms) w S1 B := h1.reheap (fun j l hj => .inl (by rw [List.getElem?_append_left (h1.live j l hj).2.2])) (by simp)
   have hr' := Zjc (Sub.freeze fz H ms) hr
   have hv1 : VL φ w S1 args vals := hv.evo h2 hI (Nat.le_refl _)
   have hcall := ZhQ hG.rn hG.prim hI1 hr' hv1 (Zlp hI hlen ms) (fun id hid l es z m hl hm => by
    have hlt := (hI.live id l hl).2.2
    rw [List.getElem?_append_left (by omega)] at hm
    obtain ⟨m', hm'⟩ := Zet fz H id es z m hm
    exact h3 id hid l es z m' hl hm')
   refine ⟨Znn hG hr, hcall.mono ?_⟩
   rintro e w' ⟨u, φ', S2, rfl, h4, h5, h6, _⟩
   exact ⟨u, φ', S2, rfl, h4, h2.trans (h5.mono (by simp [hlen])), h6⟩
theorem ZdK : VRel φ w S (.tup []) undef := by simp only [VRel, VL]; exact ⟨#[], rfl, rfl⟩
theorem Zke {ts : Array TypeId} {ty : TypeId} {s x v : PV} {sv xv : Value} {H' : List Mem} (hI : Inv φ H w S B) (hop : ZeS P h H ts s x = some (v, H')) (hs : VRel φ w S s sv) (hx : VRel φ w S x xv) :
 ∃ u w' φ' S', (Builtin.append_ ts ty #[sv, xv]).run P w = .ok u w' ∧ Inv φ' H' w' S' B ∧ Evo H.length B φ S w φ' S' w' ∧ VRel φ' w' S' v u := by
 unfold ZeS at hop
 cases hf : frzT h ts with
 | false => rw [hf, cond_false] at hop; exact ZfG hI hop hs hx
 | true =>
  rw [hf, cond_true] at hop
  obtain ⟨x', h1, h2⟩ := Zao hop
  obtain ⟨S1, h3, h4, h5⟩ := hI.freeze (rch ZaD H x)
  have h6 := (ZdP hI (rch ZaD H x) ZaD x x' xv h1 hx (fun _ hid => hid)).1
  have h7 : IRel w S1 x' xv := IRel.mono (fun b hb => ⟨by
   rcases hb with hb | ⟨id, hid, l, hl, rfl⟩
   ·exact (h4.st b hb).1
   ·obtain ⟨es, z, m, hrow⟩ := ZjS _ _ _ hid
    exact h5 id hid l es z m hl hrow, rfl⟩) _ _ h6
  obtain ⟨u, w', φ', S', h8, h9, h10, h11⟩ := ZfG (P := P) (ty := ty) h3 h2 (VRel.mono (fun _ _ hl => hl) h4.st _ _ hs) (IRel.toV _ _ h7)
  rw [ZaJ] at h10
  exact ⟨u, w', φ', S', h8, h9, h4.trans h10, h11⟩
theorem Zxf (hG : Good P h E) {v : PV} (hI : Inv φ H w S B) (ht : TRel φ w S N tm a) (hop : opW P h E H (ev tm) o = some (v, H'))
 (hK : ∀ u w' φ' S', Inv φ' H' w' S' B → Evo H.length B φ S w φ' S' w' → VRel φ' w' S' v u → K (a.put o.dst u) w') : o.wp P a w K Q := by
 have harr : ∀ c : Call, c.args.map a.eval = (c.args.toList.map a.eval).toArray := fun c => by rw [← Array.toList_map, Array.toArray_toList]
 unfold opW at hop
 cases ho : o.op with
 | store t x y =>
  simp only [ho, ZdY] at hop
  obtain ⟨p, h1, g1⟩ := Zao hop
  obtain ⟨q, h2, g2⟩ := Zao g1
  obtain ⟨h3, hn⟩ := ZfV h2
  cases hs : ZcI P H t p q with
  | none => simp [hs] at g2
  | some H2 =>
   simp only [hs, Option.map_some, Option.some.injEq, Prod.mk.injEq] at g2
   obtain ⟨rfl, rfl⟩ := g2
   obtain ⟨w', h4, h5, h6⟩ := Zlg (P := P) hI hs (Zay ht h1) (Zay ht h3) hn
   exact Zgl (by simp [execOp, ho, h4]) (hK _ w' φ S h5 h6 ZdK)
 | mapUpdate t m k x =>
  simp only [ho] at hop
  have hop' := hop
  unfold Zsu at hop'
  obtain ⟨e, he, g1⟩ := Zao hop'
  obtain ⟨mv, h1, g2⟩ := Zao g1
  obtain ⟨kv, h2, g3⟩ := Zao g2
  obtain ⟨xv, h3, g4⟩ := Zao g3
  rw [h1, h2, h3] at hop
  obtain ⟨w', h4, rfl, h5, h6⟩ := Zi2 hI hop (Zay ht h1) (Zay ht h2) (Zay ht h3)
  exact Zgl (by simp [execOp, ho, h4]) (hK _ w' φ S h5 h6 ZdK)
 | insert t m k x =>
  simp only [ho] at hop
  have hop' := hop
  unfold Zsu at hop'
  obtain ⟨e, he, g1⟩ := Zao hop'
  obtain ⟨mv, h1, g2⟩ := Zao g1
  obtain ⟨kv, h2, g3⟩ := Zao g2
  obtain ⟨xv, h3, g4⟩ := Zao g3
  rw [h1, h2, h3] at hop
  obtain ⟨w', h4, rfl, h5, h6⟩ := Zi2 hI hop (Zay ht h1) (Zay ht h2) (Zay ht h3)
  exact Zgl (by simp [execOp, ho, h4]) (hK _ w' φ S h5 h6 ZdK)
 | call c =>
  simp only [ho, ZqI] at hop
  cases hc : c.callee with
  | builtin b =>
   simp only [hc, Zg6] at hop
   have two : ∀ {vs : List PV} {s x : PV}, ZaO (ev tm) c.args.toList = some vs → vs = [s, x] → ∃ sv xv, c.args.toList.map a.eval = [sv, xv] ∧ VRel φ w S s sv ∧ VRel φ w S x xv := by
    intro vs s x h1 h2
    subst h2
    have hv := ZbP ht h1
    simp only [VL] at hv
    obtain ⟨sv, r, e1, h3, xv, r2, rfl, h4, rfl⟩ := hv
    exact ⟨sv, xv, e1, h3, h4⟩
   cases b <;> simp only [] at hop <;> try (cases hop; done)
   ·
    unfold ZeN at hop
    obtain ⟨vs, h1, g1⟩ := Zao hop
    split at g1
    ·rename_i s x
     obtain ⟨sv, xv, e1, h3, h4⟩ := two h1 rfl
     obtain ⟨u, w', φ', S', h5, h6, h7, h8⟩ := Zke (P := P) (h := h) (ty := o.type) hI g1 h3 h4
     refine ZcC ?_ (hK u w' φ' S' h6 h7 h8)
     simp only [execOp, ho, resolve, hc, Sem.run_bind, Sem.run_pure, Result.andThen_ok, invoke, builtin, harr, e1]
     rw [show ([sv, xv] : List Value).toArray = #[sv, xv] from rfl, h5]
     rfl
    ·cases g1
   ·
    unfold ZkO at hop
    obtain ⟨vs, h1, g1⟩ := Zao hop
    split at g1
    ·rename_i s
     have hv := ZbP ht h1
     simp only [VL] at hv
     obtain ⟨sv, r, e1, h3, rfl⟩ := hv
     obtain ⟨u, w', h5, h6, h7, h8⟩ := ZkJ (P := P) (ty := o.type) hI g1 h3
     refine ZcC ?_ (hK u w' φ S h6 h7 h8)
     simp only [execOp, ho, resolve, hc, Sem.run_bind, Sem.run_pure, Result.andThen_ok, invoke, builtin, harr, e1]
     rw [show ([sv] : List Value).toArray = #[sv] from rfl, h5]
     rfl
    ·cases g1
   ·
    unfold ZmP at hop
    obtain ⟨vs, h1, g1⟩ := Zao hop
    split at g1
    ·rename_i s x
     obtain ⟨sv, xv, e1, h3, h4⟩ := two h1 rfl
     obtain ⟨u, w', h5, h6, h7, h8⟩ := Zm9 (P := P) (ty := o.type) hI g1 h3 h4
     refine ZcC ?_ (hK u w' φ S h6 h7 h8)
     simp only [execOp, ho, resolve, hc, Sem.run_bind, Sem.run_pure, Result.andThen_ok, invoke, builtin, harr, e1]
     rw [show ([sv, xv] : List Value).toArray = #[sv, xv] from rfl, h5]
     rfl
    ·cases g1
  | value x =>
   have dyn : Zsn h E H (ev tm) x c = some (v, H') → o.wp P a w K Q := by
    intro hd
    unfold Zsn at hd
    obtain ⟨fv, h1, g1⟩ := Zao hd
    split at g1
    ·rename_i f first caps
     obtain ⟨vs, h2, g2⟩ := Zao g1
     have hf := Zay ht h1
     simp only [VRel] at hf
     obtain ⟨fs, cs, hfe, hfv, hcv⟩ := hf
     obtain ⟨hok, hcall⟩ := Ze0 hG hI g2 (VL.append (VL.append hfv (ZbP ht h2)) hcv)
     refine ZeU (f := f) (args := (fs.toList ++ c.args.toList.map a.eval ++ cs.toList).toArray) ?_ (hcall.mono ?_)
     ·simp only [execOp, ho, resolve, hc, hfe, Deferred.ofValue, Sem.run_bind, Sem.run_pure, Result.andThen_ok, invoke, ZdN hok]
      congr 2
      apply Array.ext'
      simp
     ·rintro e w' ⟨u, φ', S', rfl, h4, h5, h6⟩
      exact ⟨u, rfl, hK u w' φ' S' h4 h5 h6⟩
    ·cases g1
   cases x with
   | func f =>
    simp only [hc] at hop
    unfold Zk9 at hop
    obtain ⟨vs, h2, g2⟩ := Zao hop
    obtain ⟨hok, hcall⟩ := Ze0 hG hI g2 (ZbP ht h2)
    refine ZeU (f := f) (args := (c.args.toList.map a.eval).toArray) ?_ (hcall.mono ?_)
    ·simp only [execOp, ho, resolve, hc, Act.eval, Deferred.ofValue, Sem.run_bind, Sem.run_pure, Result.andThen_ok, invoke, ZdN hok]
     congr 2
     apply Array.ext'
     simp
    ·rintro e w' ⟨u, φ', S', rfl, h4, h5, h6⟩
     exact ⟨u, rfl, hK u w' φ' S' h4 h5 h6⟩
   | _ => simp only [hc] at hop; exact dyn hop
  | invoke _ _ => simp [hc] at hop
 | _ => simp [ho] at hop
theorem Zuf (hG : Good P h E) {v : PV} (hI : Inv φ H w S B) (ht : TRel φ w S N tm a) (hop : opA P h E H (ev tm) o = some (v, H'))
 (hK : ∀ u w' φ' S', Inv φ' H' w' S' B → Evo H.length B φ S w φ' S' w' → VRel φ' w' S' v u → K (a.put o.dst u) w') : o.wp P a w K Q := by
 cases hw : isW h o with
 | true => rw [Zs8 hw] at hop; exact Zxf hG hI ht hop hK
 | false =>
  rw [Zpj hw] at hop
  unfold ZiB at hop
  cases hr : opR P h E H H.length (ev tm) o with
  | none => simp [hr] at hop
  | some x =>
   obtain ⟨q, ms, fz⟩ := x
   simp only [hr, Option.map_some, Option.some.injEq, Prod.mk.injEq] at hop
   obtain ⟨rfl, rfl⟩ := hop
   obtain ⟨S1, h1, h2, h3⟩ := hI.freeze fz
   have hlen := ZaJ fz H
   have hI1 : Inv φ (freeze fz H ++ ms) w S1 B := h1.reheap (fun j l hj => .inl (by rw [List.getElem?_append_left (h1.live j l hj).2.2])) (by simp)
   have ht1 : TRel φ w S1 N tm a := ⟨ht.1, ht.2.1, fun i p hp => ⟨(ht.2.2 i p hp).1, (ht.2.2 i p hp).2.evo h2 hI (Nat.le_refl _)⟩⟩
   refine Zrx hG hI1 ht1 (Zok (Sub.freeze fz H ms) hr) ?_ ?_ ?_
   ·exact Zlp hI hlen ms
   ·intro id hid l es z m hl hm
    have hlt := (hI.live id l hl).2.2
    rw [List.getElem?_append_left (by omega)] at hm
    obtain ⟨m', hm'⟩ := Zet fz H id es z m hm
    exact h3 id hid l es z m' hl hm'
   ·intro u w' φ' S' h4 h5 h6 _
    exact hK u w' φ' S' h4 (h2.trans (h5.mono (by simp [hlen]))) h6
theorem ZfS {dst : Option Tmp} {v : PV} {u : Value} {tm' : List (Nat × PV)} (hp : Zer N dst v tm = some tm') (ht : TRel φ w S N tm a) (hv : VRel φ w S v u) : TRel φ w S N tm' (a.put dst u) := by
 unfold Zer at hp
 cases dst with
 | none => simp at hp; subst hp; exact ht
 | some d =>
  simp only [] at hp
  obtain ⟨hd, hp⟩ := Zaq hp
  cases hp
  refine ⟨by simp [Act.put, ht.1], ht.2.1, ?_⟩
  intro i p hi
  rw [ZbG] at hi
  by_cases hid : i = d
  ·subst hid
   rw [if_pos rfl] at hi
   cases hi
   refine ⟨hd, ?_⟩
   have : i < a.tmps.size := by rw [ht.1]; exact hd
   simpa [Act.put, this] using hv
  ·rw [if_neg hid] at hi
   obtain ⟨h1, h2⟩ := ht.2.2 i p hi
   refine ⟨h1, ?_⟩
   have : (a.put (some d) u).tmps.getD i undef = a.tmps.getD i undef := by
    simp [Act.put, Array.getElem?_setIfInBounds_ne (fun e => hid e.symm)]
   rw [this]; exact h2
theorem TRel.evo {k : Nat} {φ' : Phi} {S' : Nat → Prop} {w' : World} (ht : TRel φ w S N tm a) (he : Evo k B φ S w φ' S' w') (hI : Inv φ H w S B) (hk : H.length ≤ k) : TRel φ' w' S' N tm a :=
 ⟨ht.1, ht.2.1, fun i p hp => ⟨(ht.2.2 i p hp).1, (ht.2.2 i p hp).2.evo he hI hk⟩⟩
theorem ZnJ {t : Nat} (ht : TRel φ w S N tm a) {p : PV} (hp : get tm t = some p) : a.tmps[t]? = some (a.tmps.getD t undef) := by
 have := (ht.2.2 t p hp).1
 rw [← ht.1] at this
 simp [this]
theorem Zdz {ops : Array Oper} {b : Bool} (hw : ZcZ ops tm o = some b) (ht : TRel φ w S N tm a) : Region.wanted o (yielded ops a.tmps) = b := by
 unfold ZcZ at hw
 unfold Region.wanted
 cases hg : o.guard with
 | none => simp [hg] at hw ⊢; exact hw
 | some jw =>
  obtain ⟨j, want⟩ := jw
  simp only [hg] at hw ⊢
  unfold yielded
  cases hd : (ops[j]?).bind (·.dst) with
  | none => simp [hd] at hw
  | some d =>
   simp only [hd, Option.bind_some] at hw ⊢
   split at hw
   ·rename_i c hc
    cases hw
    have h1 := ZnJ ht hc
    have h2 := (ht.2.2 d _ hc).2
    simp only [VRel] at h2
    rw [h1, h2]
    cases c <;> cases want <;> rfl
   ·rename_i hc
    cases hw
    have h1 := ZnJ ht hc
    have h2 := (ht.2.2 d _ hc).2
    simp only [VRel, VL] at h2
    obtain ⟨arr, h3, h4⟩ := h2
    have : arr = #[] := by apply Array.ext'; simpa using h4
    subst this
    rw [h1, h3]
    rfl
   ·cases hw
theorem Zp0 (hG : Good P h E) {ops : Array Oper} {i : Nat} (hi : ops[i]? = some o) {s s' : St} (hst : Zco P h E N ops o s = some s') (hI : Inv φ s.hp w S B) (ht : TRel φ w S N s.tm a)
 (hK : ∀ a' w' φ' S', Inv φ' s'.hp w' S' B → Evo s.hp.length B φ S w φ' S' w' → TRel φ' w' S' N s'.tm a' → K a' w') : wpOp P ops Q i K a w := by
 unfold Zco at hst
 obtain ⟨b, hb, hst⟩ := Zao hst
 have hwant := Zdz hb ht
 unfold wpOp
 simp only [hi, hwant]
 cases b with
 | true =>
  simp only [cond_true] at hst
  obtain ⟨x, hx, hst⟩ := Zao hst
  obtain ⟨v, H'⟩ := x
  cases hp : Zer N o.dst v s.tm with
  | none => simp [hp] at hst
  | some tm' =>
   simp only [hp, Option.map_some, Option.some.injEq] at hst
   subst hst
   simp only [if_true]
   left
   refine Zuf hG hI ht hx ?_
   intro u w' φ' S' h1 h2 h3
   exact hK _ w' φ' S' h1 h2 (ZfS hp (ht.evo h2 hI (Nat.le_refl _)) h3)
 | false =>
  simp only [cond_false] at hst
  cases hp : Zer N o.dst (.tup []) s.tm with
  | none => simp [hp] at hst
  | some tm' =>
   simp only [hp, Option.map_some, Option.some.injEq] at hst
   subst hst
   simp only [Bool.false_eq_true, if_false]
   exact hK _ w φ S hI (Evo.refl _ _ _ _ _) (ZfS hp ht ZdK)
theorem Zpk {t : TypeId} {x y : PV} (hs : ZcI P H t x y = some H') : H'.length = H.length := by
 unfold ZcI at hs
 split at hs
 ·split at hs
  ·obtain ⟨c, _, hs⟩ := Zao hs
   obtain ⟨n, _, hs⟩ := Zao hs
   obtain ⟨_, hs⟩ := Zaq hs
   cases hs; simp
  ·cases hs
 ·cases hs
theorem Zm0 {z by_ : Nat} {s v : PV} {new : List (List PV)} (hs : Zb2 H z by_ s new = some (v, H')) : H.length ≤ H'.length := by
 unfold Zb2 at hs
 split at hs
 ·split at hs
  ·cases hs; exact Nat.le_refl _
  ·obtain ⟨_, hs⟩ := Zaq hs
   cases hs; simp
 ·split at hs
  ·obtain ⟨_, hs⟩ := Zaq hs
   split at hs
   ·cases hs; exact Nat.le_refl _
   ·split at hs
    ·obtain ⟨_, hs⟩ := Zaq hs
     cases hs; simp
    ·obtain ⟨_, hs⟩ := Zaq hs
     cases hs; simp
  ·cases hs
 ·cases hs
theorem ZhS {ts : Array TypeId} {s x v : PV} (hs : ZdB P H ts s x = some (v, H')) : H.length ≤ H'.length := by
 unfold ZdB at hs
 obtain ⟨t, _, hs⟩ := Zao hs
 obtain ⟨e, _, hs⟩ := Zao hs
 obtain ⟨z, _, hs⟩ := Zao hs
 obtain ⟨b, _, hs⟩ := Zao hs
 obtain ⟨zero, _, hs⟩ := Zao hs
 obtain ⟨new, _, hs⟩ := Zao hs
 obtain ⟨_, hs⟩ := Zaq hs
 exact Zm0 hs
theorem Zmq {ts : Array TypeId} {s x v : PV} (hs : ZeS P h H ts s x = some (v, H')) : H.length ≤ H'.length := by
 unfold ZeS at hs
 cases hf : frzT h ts with
 | false => rw [hf, cond_false] at hs; exact ZhS hs
 | true =>
  rw [hf, cond_true] at hs
  obtain ⟨x', _, h2⟩ := Zao hs
  have := ZhS h2
  rwa [ZaJ] at this
theorem ZqH {ts : Array TypeId} {s x v : PV} (hs : Zmr P H ts s x = some (v, H')) : H.length ≤ H'.length := by
 unfold Zmr at hs
 obtain ⟨t, _, hs⟩ := Zao hs
 obtain ⟨e, _, hs⟩ := Zao hs
 obtain ⟨z, _, hs⟩ := Zao hs
 obtain ⟨src, _, hs⟩ := Zao hs
 obtain ⟨_, hs⟩ := Zaq hs
 split at hs
 ·cases hs; exact Nat.le_refl _
 ·split at hs
  ·obtain ⟨_, hs⟩ := Zaq hs
   cases hs; simp
  ·cases hs
 ·cases hs
theorem ZpF {ts : Array TypeId} {s v : PV} (hs : Zk6 P H ts s = some (v, H')) : H.length ≤ H'.length := by
 unfold Zk6 at hs
 obtain ⟨t, _, hs⟩ := Zao hs
 obtain ⟨e, _, hs⟩ := Zao hs
 obtain ⟨z, _, hs⟩ := Zao hs
 obtain ⟨zero, _, hs⟩ := Zao hs
 obtain ⟨_, hs⟩ := Zaq hs
 split at hs
 ·cases hs; exact Nat.le_refl _
 ·split at hs
  ·obtain ⟨_, hs⟩ := Zaq hs
   cases hs; simp
  ·cases hs
 ·cases hs
theorem Zoq {t : TypeId} {m k x : Option PV} {v : PV} (hs : Zsu P H t m k x = some (v, H')) : H.length ≤ H'.length := by
 unfold Zsu at hs
 obtain ⟨_, _, hs⟩ := Zao hs
 obtain ⟨m, _, hs⟩ := Zao hs
 obtain ⟨k, _, hs⟩ := Zao hs
 obtain ⟨x, _, hs⟩ := Zao hs
 obtain ⟨key, _, hs⟩ := Zao hs
 split at hs
 ·split at hs
  ·rename_i es _
   cases hp : ZgC key x es with
   | none => simp [hp] at hs
   | some es' =>
    simp only [hp, Option.map_some, Option.some.injEq, Prod.mk.injEq] at hs
    obtain ⟨_, rfl⟩ := hs
    simp
  ·cases hs
 ·cases hs
theorem ZoN {r : Res} {v : PV} (hs : ZiB H r = some (v, H')) : H.length ≤ H'.length := by
 unfold ZiB at hs
 cases r with
 | none => simp at hs
 | some x =>
  obtain ⟨q, ms, fz⟩ := x
  simp only [Option.map_some, Option.some.injEq, Prod.mk.injEq] at hs
  obtain ⟨_, rfl⟩ := hs
  simp [ZaJ]
theorem Zho (hG : Good P h E) {f : FuncId} {args : List PV} {v : PV} (hc : Zcl h E f args H = some (v, H')) : H.length ≤ H'.length := by
 unfold Zcl at hc
 split at hc
 ·exact hG.len _ _ _ _ _ hc
 ·exact ZoN hc
theorem Zu1 (hG : Good P h E) {ρ : Operand → Option PV} {v : PV} (hop : opW P h E H ρ o = some (v, H')) : H.length ≤ H'.length := by
 unfold opW at hop
 split at hop
 ·rename_i t _ _ _
  unfold ZdY at hop
  obtain ⟨p, _, hop⟩ := Zao hop
  obtain ⟨q, _, hop⟩ := Zao hop
  cases hs : ZcI P H t p q with
  | none => simp [hs] at hop
  | some H2 =>
   simp only [hs, Option.map_some, Option.some.injEq, Prod.mk.injEq] at hop
   obtain ⟨_, rfl⟩ := hop
   rw [Zpk hs]; exact Nat.le_refl _
 ·exact Zoq hop
 ·exact Zoq hop
 ·unfold ZqI at hop
  split at hop
  ·unfold Zg6 at hop
   split at hop
   ·unfold ZeN at hop
    obtain ⟨vs, _, hop⟩ := Zao hop
    split at hop
    ·exact Zmq hop
    ·cases hop
   ·unfold ZmP at hop
    obtain ⟨vs, _, hop⟩ := Zao hop
    split at hop
    ·exact ZqH hop
    ·cases hop
   ·unfold ZkO at hop
    obtain ⟨vs, _, hop⟩ := Zao hop
    split at hop
    ·exact ZpF hop
    ·cases hop
   ·cases hop
  ·unfold Zk9 at hop
   obtain ⟨vs, _, hop⟩ := Zao hop
   exact Zho hG hop
  ·unfold Zsn at hop
   obtain ⟨fv, _, hop⟩ := Zao hop
   split at hop
   ·obtain ⟨vs, _, hop⟩ := Zao hop
    exact Zho hG hop
   ·cases hop
  ·cases hop
 ·cases hop
theorem ZmN (hG : Good P h E) {ρ : Operand → Option PV} {v : PV} (hop : opA P h E H ρ o = some (v, H')) : H.length ≤ H'.length := by
 cases hw : isW h o with
 | true => rw [Zs8 hw] at hop; exact Zu1 hG hop
 | false => rw [Zpj hw] at hop; exact ZoN hop
theorem Zpl (hG : Good P h E) {ops : Array Oper} {s s' : St} (hst : Zco P h E N ops o s = some s') : s.hp.length ≤ s'.hp.length := by
 unfold Zco at hst
 obtain ⟨b, _, hst⟩ := Zao hst
 cases b with
 | true =>
  simp only [cond_true] at hst
  obtain ⟨⟨v, H'⟩, hx, hst⟩ := Zao hst
  cases hp : Zer N o.dst v s.tm with
  | none => simp [hp] at hst
  | some tm' =>
   simp only [hp, Option.map_some, Option.some.injEq] at hst
   subst hst
   exact ZmN hG hx
 | false =>
  simp only [cond_false] at hst
  cases hp : Zer N o.dst (.tup []) s.tm with
  | none => simp [hp] at hst
  | some tm' =>
   simp only [hp, Option.map_some, Option.some.injEq] at hst
   subst hst
   exact Nat.le_refl _
theorem Zi6 (hG : Good P h E) {ops : Array Oper} (base : Nat) : ∀ (l : List Oper) (i : Nat) (s s' : St) (φ : Phi) (S : Nat → Prop) (a : Act) (w : World), ops.toList.drop i = l → ZdD P h E N ops l s = some s' → Inv φ s.hp w S B → TRel φ w S N s.tm a → base ≤ s.hp.length →
 (∀ a' w' φ' S', Inv φ' s'.hp w' S' B → Evo base B φ S w φ' S' w' → TRel φ' w' S' N s'.tm a' → base ≤ s'.hp.length → Q .normal a' w') → wpOps P ops Q ((List.range ops.size).drop i) a w
 | [], i, s, s', φ, S, a, w, hl, hst, hI, ht, hb, hQ => by
  have hsi : ops.size ≤ i := by
   have := List.drop_eq_nil_iff.1 hl
   simpa using this
  rw [List.drop_eq_nil_of_le (by simpa using hsi)]
  cases hst
  exact hQ a w φ S hI (Evo.refl _ _ _ _ _) ht hb
 | o :: l, i, s, s', φ, S, a, w, hl, hst, hI, ht, hb, hQ => by
  have hlt : i < ops.size := by
   rcases Nat.lt_or_ge i ops.size with h | h
   ·exact h
   ·rw [List.drop_eq_nil_of_le (by simpa using h)] at hl; cases hl
  have hi : ops[i]? = some o := by
   have : (ops.toList.drop i)[0]? = some o := by rw [hl]; rfl
   rw [List.getElem?_drop] at this
   simpa using this
  have hl' : ops.toList.drop (i + 1) = l := by rw [← List.drop_drop, hl]; rfl
  obtain ⟨s1, h1, h2⟩ := Zao (x := Zco P h E N ops o s) (f := fun s => ZdD P h E N ops l s) hst
  have hr : (List.range ops.size).drop i = i :: (List.range ops.size).drop (i + 1) := by
   rw [List.drop_eq_getElem_cons (by simpa using hlt)]
   simp
  rw [hr, wpOps_cons]
  refine Zp0 hG hi h1 hI ht ?_
  intro a' w' φ' S' h3 h4 h5
  have hlen : s.hp.length ≤ s1.hp.length := Zpl hG h1
  refine Zi6 hG base l (i + 1) s1 s' φ' S' a' w' hl' h2 h3 h5 (by omega) ?_
  intro a'' w'' φ'' S'' h6 h7 h8 h9
  exact hQ a'' w'' φ'' S'' h6 ((h4.mono hb).trans h7) h8 h9
end
end Go.Am
/-
 Regions that draw the order of their operations: the check of a region, what an operation looks at.
-/
namespace Go.Am
variable [Laid]
open Go.RowKit
noncomputable def ZoK (acc : List Nat) (o : Oper) : Nat :=
 o.after.toList.foldr (fun e s => bif Region.binds .any e then (s ||| 2 ^ e.on) ||| acc.getD e.on 0 else s) 0
noncomputable def Zu3 : List Oper → List Nat → List Nat
 | [], acc => acc
 | o :: r, acc => Zu3 r (acc ++ [ZoK acc o])
noncomputable def ZdI (h : Hints) (ls : List Nat) : List Oper → Nat → Nat
 | [], i => i
 | o :: r, i => bif !has i ls && isW h o then i else ZdI h ls r (i + 1)
noncomputable def Zuh (ls : List Nat) (ops : Array Oper) (k : Nat) (ms : List Nat) (i j : Nat) : Bool :=
 Nat.testBit (ms.getD j 0) i || match ops[i]?, ops[j]? with
 | some x, some y => x.apart ops y && (has i ls || has j ls || decide (j < k))
 | _, _ => true
noncomputable def Zp9 (ops : Array Oper) (j : Nat) : Bool :=
 match ops[j]? with
 | some o => o.after.toList.all fun e => !Region.binds .any e || decide (e.on < j)
 | none => true
noncomputable def ZdR (h : Hints) (ls : List Nat) (ops : Array Oper) : Bool :=
 let ms := Zu3 ops.toList []
 let k := ZdI h ls ops.toList 0
 ((List.range ops.size).all fun j => Zp9 ops j && (List.range j).all fun i => Zuh ls ops k ms i j) && ls.all fun i => Nat.blt i k
def Zjh (ops : Array Oper) (D : Nat → Bool) : Prop := ∀ j o, ops[j]? = some o → D j = true → ∀ e ∈ o.after, Region.binds .any e = true → D e.on = true
theorem ZmI {acc : List Nat} {o : Oper} {i : Nat} : Nat.testBit (ZoK acc o) i = true → ∃ e ∈ o.after, Region.binds .any e = true ∧ (i = e.on ∨ Nat.testBit (acc.getD e.on 0) i = true) := by
 unfold ZoK
 have gen : ∀ l : List Edge, Nat.testBit (l.foldr (fun e s => bif Region.binds .any e then (s ||| 2 ^ e.on) ||| acc.getD e.on 0 else s) 0) i = true → ∃ e ∈ l, Region.binds .any e = true ∧ (i = e.on ∨ Nat.testBit (acc.getD e.on 0) i = true) := by
  intro l
  induction l with
  | nil => intro h; simp at h
  | cons e l ih =>
   intro h
   rw [List.foldr_cons] at h
   cases hb : Region.binds .any e with
   | false =>
    rw [hb] at h
    obtain ⟨e', h1, h2⟩ := ih h
    exact ⟨e', List.mem_cons_of_mem _ h1, h2⟩
   | true =>
    rw [hb, cond_true, Nat.testBit_or, Nat.testBit_or] at h
    simp only [Bool.or_eq_true] at h
    rcases h with (h | h) | h
    ·obtain ⟨e', h1, h2⟩ := ih h
     exact ⟨e', List.mem_cons_of_mem _ h1, h2⟩
    ·rw [Nat.testBit_two_pow] at h
     exact ⟨e, List.mem_cons_self, hb, .inl (by simpa using (of_decide_eq_true h).symm)⟩
    ·exact ⟨e, List.mem_cons_self, hb, .inr h⟩
 intro h
 obtain ⟨e, h1, h2⟩ := gen _ h
 exact ⟨e, by simpa using h1, h2⟩
theorem ZgB {ops : Array Oper} {D : Nat → Bool} (hD : Zjh ops D) : ∀ (l : List Oper) (acc : List Nat), ops.toList.drop acc.length = l →
 (∀ j i, D j = true → Nat.testBit (acc.getD j 0) i = true → D i = true) → ∀ j i, D j = true → Nat.testBit ((Zu3 l acc).getD j 0) i = true → D i = true
 | [], acc, _, ha => ha
 | o :: r, acc, hl, ha => by
  have hlt : acc.length < ops.size := by
   rcases Nat.lt_or_ge acc.length ops.size with h | h
   ·exact h
   ·rw [List.drop_eq_nil_of_le (by simpa using h)] at hl; cases hl
  have ho : ops[acc.length]? = some o := by
   have : (ops.toList.drop acc.length)[0]? = some o := by rw [hl]; rfl
   rw [List.getElem?_drop] at this
   simpa using this
  refine ZgB hD r (acc ++ [ZoK acc o]) (by rw [List.length_append, ← List.drop_drop, hl]; rfl) ?_
  intro j i hj hi
  rcases Nat.lt_trichotomy j acc.length with h | h | h
  ·rw [List.getD_eq_getElem?_getD, List.getElem?_append_left h, ← List.getD_eq_getElem?_getD] at hi
   exact ha j i hj hi
  ·subst h
   rw [List.getD_eq_getElem?_getD, List.getElem?_append_right (Nat.le_refl _)] at hi
   simp only [Nat.sub_self, List.getElem?_cons_zero, Option.getD_some] at hi
   obtain ⟨e, he, hb, h⟩ := ZmI hi
   have hde := hD _ o ho hj e he hb
   rcases h with rfl | h
   ·exact hde
   ·exact ha e.on i hde h
  ·rw [List.getD_eq_getElem?_getD, List.getElem?_eq_none (by simp; omega)] at hi
   simp at hi
theorem ZeW (h : Hints) (ls : List Nat) : ∀ (l : List Oper) (i : Nat), i ≤ ZdI h ls l i ∧ ZdI h ls l i ≤ i + l.length ∧ ∀ j o, l[j]? = some o → i + j < ZdI h ls l i → has (i + j) ls = false → isW h o = false
 | [], i => ⟨Nat.le_refl _, Nat.le_refl _, by simp⟩
 | o :: r, i => by
  simp only [ZdI]
  cases hc : (!has i ls && isW h o) with
  | true =>
   refine ⟨Nat.le_refl _, by simp, ?_⟩
   intro j x _ hlt
   simp only [cond_true] at hlt
   omega
  | false =>
   obtain ⟨h1, h2, h3⟩ := ZeW h ls r (i + 1)
   refine ⟨by simp only [cond_false]; omega, by simp only [cond_false, List.length_cons]; omega, ?_⟩
   intro j x hx hlt hno
   cases j with
   | zero =>
    simp at hx; subst hx
    simp only [Nat.add_zero] at hno
    simpa [hno] using hc
   | succ j =>
    simp only [cond_false] at hlt
    exact h3 j x (by simpa using hx) (by omega) (by rw [show i + 1 + j = i + (j + 1) from by omega]; exact hno)
theorem Zic {h : Hints} {ls : List Nat} {ops : Array Oper} (hd : ZdR h ls ops = true) :
 (∀ j o, ops[j]? = some o → ∀ e ∈ o.after, Region.binds .any e = true → e.on < j) ∧
 ∀ D, Zjh ops D → ∀ i j x y, i < j → ops[i]? = some x → ops[j]? = some y → D j = true → D i = true ∨ (x.apart ops y = true ∧ (has i ls = true ∨ has j ls = true ∨ j < ZdI h ls ops.toList 0)) := by
 unfold ZdR at hd
 simp only [List.all_eq_true, List.mem_range, Bool.and_eq_true] at hd
 obtain ⟨hd, _⟩ := hd
 refine ⟨?_, ?_⟩
 ·intro j o ho e he hb
  have hlt := (Array.getElem?_eq_some_iff.1 ho).1
  have h1 := (hd j hlt).1
  unfold Zp9 at h1
  simp only [ho, List.all_eq_true, Bool.or_eq_true] at h1
  have := h1 e (by simpa using he)
  simpa [hb] using this
 ·intro D hD i j x y hij hx hy hj
  have hlt := (Array.getElem?_eq_some_iff.1 hy).1
  have h1 := (hd j hlt).2 i hij
  unfold Zuh at h1
  simp only [hx, hy, Bool.or_eq_true, Bool.and_eq_true, decide_eq_true_eq] at h1
  rcases h1 with h1 | ⟨h1, h2⟩
  ·exact .inl (ZgB hD ops.toList [] (by simp) (by intro j i _ h; simp at h) j i hj h1)
  ·exact .inr ⟨h1, by rcases h2 with (h2 | h2) | h2 <;> simp [h2]⟩
theorem ZjH {i : Nat} : ∀ {ls : List Nat}, has i ls = true → i ∈ ls
 | [], h => by cases h
 | j :: l, h => by
  have h' : (bif Nat.beq i j then true else has i l) = true := h
  cases hb : Nat.beq i j with
  | true => rw [Nat.eq_of_beq_eq_true hb]; exact List.mem_cons_self
  | false => rw [hb, cond_false] at h'; exact List.mem_cons_of_mem _ (ZjH h')
theorem Zln {h : Hints} {ls : List Nat} {ops : Array Oper} (hd : ZdR h ls ops = true) {i : Nat} (hi : has i ls = true) : i < ZdI h ls ops.toList 0 := by
 unfold ZdR at hd
 simp only [Bool.and_eq_true, List.all_eq_true (l := ls)] at hd
 have := hd.2 i (ZjH hi)
 exact Nat.le_of_ble_eq_true this
section
variable {P : Program} {h : Hints} {E : Ev} {H : List Mem} {o : Oper} {ρ ρ' : Operand → Option PV}
theorem Zcz {α β : Type} {f g : α → Option β} : ∀ {l : List α}, (∀ x ∈ l, f x = g x) → ZaO f l = ZaO g l
 | [], _ => rfl
 | x :: l, h => by rw [Zfd, Zfd, h x List.mem_cons_self, Zcz fun y hy => h y (List.mem_cons_of_mem _ hy)]
theorem Zfc {parts : Array (Nat × Operand)} (hρ : ∀ x ∈ parts, ρ x.2 = ρ' x.2) : ZeT ρ parts = ZeT ρ' parts := by
 unfold ZeT
 exact Zcz fun x hx => by rw [hρ x (by simpa using hx)]
theorem ZlY {base : Nat} (hρ : ∀ x ∈ o.op.operands, ρ x = ρ' x) : opR P h E H base ρ o = opR P h E H base ρ' o := by
 obtain ⟨dst, op, type, pos, after, guard⟩ := o
 cases op <;> simp only [Op.operands, Array.mem_def] at hρ <;> simp only [opR]
 case build t ps => unfold Zjn; rw [Zfc fun x hx => hρ _ (by simp; exact ⟨x.1, hx⟩)]
 case buildSlice t n ps => unfold ZbI; rw [Zfc fun x hx => hρ _ (by simp; exact ⟨x.1, hx⟩)]
 case makeFunc fn first caps =>
  unfold Zph
  rw [Zcz (l := first.toList) fun x hx => hρ x (by simp at hx ⊢; exact .inl hx), Zcz (l := caps.toList) fun x hx => hρ x (by simp at hx ⊢; exact .inr hx)]
 case slice t x lo hi mx =>
  unfold Zdc
  have one : ∀ y : Option Operand, (∀ z, y = some z → ρ z = ρ' z) → Zl6 ρ y = Zl6 ρ' y := fun y hy => by cases y <;> simp [Zl6]; rw [hy _ rfl]
  rw [hρ x (by simp), one lo fun z hz => hρ z (by simp [hz]), one hi fun z hz => hρ z (by simp [hz]), one mx fun z hz => hρ z (by simp [hz])]
 case call c =>
  unfold Zgw
  have hargs : ZaO ρ c.args.toList = ZaO ρ' c.args.toList := Zcz fun x hx => hρ x (by simp [Call.operands]; exact .inr (by simpa using hx))
  cases hc : c.callee with
  | builtin b => simp only [ZbD, hargs]
  | value x => cases x <;> simp only [Zd2, hargs]
  | invoke _ _ => rfl
 case pick c x y => unfold Zpx; rw [hρ c (by simp), hρ x (by simp), hρ y (by simp)]
 case move x => rw [hρ x (by simp)]
 case assign x => rw [hρ x (by simp)]
 case box t x => rw [hρ x (by simp)]
 case load t x => rw [hρ x (by simp)]
 case nilCheck x => rw [hρ x (by simp)]
 case unOp op t x => rw [hρ x (by simp)]
 case convert s d x => rw [hρ x (by simp)]
 case fieldAddr s x f => rw [hρ x (by simp)]
 case field s x f => rw [hρ x (by simp)]
 case extract x i => rw [hρ x (by simp)]
 case binOp op t x y yt => rw [hρ x (by simp), hρ y (by simp)]
 case makeSlice t x y => rw [hρ x (by simp), hρ y (by simp)]
 case indexAddr t x y => rw [hρ x (by simp), hρ y (by simp)]
 case index t x y => rw [hρ x (by simp), hρ y (by simp)]
 case lookup t x y ok => rw [hρ x (by simp), hρ y (by simp)]
theorem Zrl (hρ : ∀ x ∈ o.op.operands, ρ x = ρ' x) : opW P h E H ρ o = opW P h E H ρ' o := by
 obtain ⟨dst, op, type, pos, after, guard⟩ := o
 cases op <;> simp only [Op.operands, Array.mem_def] at hρ <;> simp only [opW]
 case store t x y => rw [hρ x (by simp), hρ y (by simp)]
 case mapUpdate t m k x => rw [hρ m (by simp), hρ k (by simp), hρ x (by simp)]
 case insert t m k x => rw [hρ m (by simp), hρ k (by simp), hρ x (by simp)]
 case call c =>
  unfold ZqI
  have hargs : ZaO ρ c.args.toList = ZaO ρ' c.args.toList := Zcz fun x hx => hρ x (by simp [Call.operands]; exact .inr (by simpa using hx))
  cases hc : c.callee with
  | builtin b => cases b <;> simp only [Zg6, ZeN, ZmP, ZkO, hargs]
  | value x =>
   have hx : ρ x = ρ' x := hρ x (by simp [Call.operands, hc])
   cases x <;> simp only [Zk9, Zsn, hargs, hx]
  | invoke _ _ => rfl
theorem ZqM (hρ : ∀ x ∈ o.op.operands, ρ x = ρ' x) : opA P h E H ρ o = opA P h E H ρ' o := by
 cases hw : isW h o with
 | true => rw [Zs8 hw, Zs8 hw]; exact Zrl hρ
 | false => rw [Zpj hw, Zpj hw, ZlY hρ]
theorem ZkA (hρ : ∀ x ∈ o.op.operands, ρ x = ρ' x) : ZaH P h E H ρ o = ZaH P h E H ρ' o := by
 unfold ZaH; rw [ZlY hρ]
variable {ops : Array Oper} {tm tm' : List (Nat × PV)}
theorem Znr (hl : ∀ t ∈ o.looksAt ops, get tm t = get tm' t) : ∀ x ∈ o.op.operands, ev tm x = ev tm' x := by
 intro x hx
 cases x <;> simp only [ev]
 rename_i t
 exact hl t (List.mem_append_left _ (List.mem_filterMap.2 ⟨.tmp t, by simpa using hx, rfl⟩))
theorem Zl9 (hl : ∀ t ∈ o.looksAt ops, get tm t = get tm' t) : ZcZ ops tm o = ZcZ ops tm' o := by
 unfold ZcZ
 cases hg : o.guard with
 | none => rfl
 | some jw =>
  obtain ⟨j, want⟩ := jw
  simp only []
  cases hd : (ops[j]?).bind (·.dst) with
  | none => rfl
  | some d => simp only [Option.bind_some, hl d (by simp [Oper.looksAt, hg, hd])]
theorem ZwI {base : Nat} {v : PV} {ms : List Mem} {fz : List Nat} (ho : opR P h E H base ρ o = some (v, ms, fz)) : ∀ id ∈ fz, id < H.length := by
 unfold opR at ho
 have hval : ∀ {x : Option PV}, val x = some (v, ms, fz) → ∀ id ∈ fz, id < H.length := fun hx => by
  obtain ⟨_, _, rfl⟩ := Zcv hx; simp
 have hmap : ∀ {α : Type} {x : Option α} {f : α → PV} {g : α → List Mem}, x.map (fun a => (f a, g a, ([] : List Nat))) = some (v, ms, fz) → ∀ id ∈ fz, id < H.length := fun {α x f g} hx => by
  cases x with
  | none => simp at hx
  | some a => simp at hx; obtain ⟨_, _, rfl⟩ := hx; simp
 split at ho <;> try exact hval ho
 ·exact hmap ho
 ·exact hmap ho
 ·unfold ZbI at ho
  obtain ⟨ps, _, ho⟩ := Zao ho
  exact hmap ho
 ·unfold Zhg at ho
  split at ho
  ·exact hmap ho
  ·cases ho
 ·unfold Zb1 at ho
  obtain ⟨l, _, ho⟩ := Zao ho
  obtain ⟨c, _, ho⟩ := Zao ho
  exact hmap ho
 ·unfold Zgw at ho
  split at ho
  ·exact hval ho
  ·unfold Zd2 at ho
   obtain ⟨_, ho⟩ := Zh9 ho
   obtain ⟨vs, _, ho⟩ := Zao ho
   unfold Zfk at ho
   obtain ⟨qs, _, ho⟩ := Zao ho
   cases himp : h.imp _ with
   | true =>
    rw [himp, cond_true] at ho
    unfold ZvF at ho
    cases hr : Zc2 E _ qs base with
    | none => rw [hr] at ho; cases ho
    | some r =>
     rw [hr] at ho
     simp only [Option.map_some, Option.some.injEq, Prod.mk.injEq] at ho
     intro id hid
     rw [← ho.2.2] at hid
     cases hf : r.2.2 with
     | true => rw [hf] at hid; simp at hid
     | false =>
      rw [hf, cond_false] at hid
      obtain ⟨x, _, hx⟩ := List.mem_flatMap.1 hid
      exact ZnF _ _ _ hx
   | false =>
   rw [himp, cond_false] at ho
   unfold Znf at ho
   obtain ⟨q, _, ho⟩ := Zao ho
   split at ho
   ·cases ho
    intro id hid
    obtain ⟨x, _, hx⟩ := List.mem_flatMap.1 hid
    exact ZnF _ _ _ hx
   ·obtain ⟨_, ho⟩ := Zaq ho
    cases ho; simp
  ·cases ho
 ·cases ho
end
end Go.Am
/-
 Regions that draw the order of their operations: every order comes to what the order of the text comes to.
-/
namespace Go.Am
variable [Laid]
open Go.RowKit
section
variable {φ φ' : Phi} {w w' : World} {S S' : Nat → Prop} {B N : Nat}
def tmD (D : Nat → Bool) (dst : Nat → Option Tmp) (v : Nat → PV) (tm0 : List (Nat × PV)) : Nat → List (Nat × PV)
 | 0 => tm0
 | i + 1 => match D i, dst i with
  | true, some d => (d, v i) :: tmD D dst v tm0 i
  | _, _ => tmD D dst v tm0 i
variable {D D' : Nat → Bool} {dst : Nat → Option Tmp} {v : Nat → PV} {tm0 : List (Nat × PV)}
theorem ZfI (t : Nat) : ∀ n, (∀ i, i < n → dst i = some t → D i = D' i) → get (tmD D dst v tm0 n) t = get (tmD D' dst v tm0 n) t
 | 0, _ => rfl
 | n + 1, h => by
  have ih := ZfI t n fun i hi => h i (by omega)
  simp only [tmD]
  cases hd : dst n with
  | none => cases D n <;> cases D' n <;> exact ih
  | some d =>
   by_cases hdt : d = t
   ·subst hdt
    rw [← h n (by omega) hd]
    cases D n with
    | true => simp [ZbG]
    | false => exact ih
   ·have g : ∀ (D : Nat → Bool), get (match D n, some d with | true, some d => (d, v n) :: tmD D dst v tm0 n | _, _ => tmD D dst v tm0 n) t = get (tmD D dst v tm0 n) t := by
     intro D
     cases D n with
     | true => simp only [ZbG, if_neg (fun e : t = d => hdt e.symm)]
     | false => rfl
    rw [g, g, ih]
theorem ZhD {k : Nat} : ∀ n, k ≤ n → (∀ i, k ≤ i → i < n → D i = false) → tmD D dst v tm0 n = tmD D dst v tm0 k
 | 0, h, _ => by rw [show k = 0 from by omega]
 | n + 1, h, hd => by
  rcases Nat.lt_or_ge n k with h' | h'
  ·rw [show k = n + 1 from by omega]
  ·simp only [tmD, hd n h' (by omega)]
   exact ZhD n h' fun i h1 h2 => hd i h1 (by omega)
theorem ZrU {j : Nat} (hj : D j = false) (hj' : D' j = true) (hs : ∀ i, i ≠ j → D' i = D i) {d : Nat} (hd : dst j = some d) (t : Nat) : ∀ n, j < n → (∀ i, j < i → i < n → D i = true → dst i ≠ some d) →
 get (tmD D' dst v tm0 n) t = get ((d, v j) :: tmD D dst v tm0 n) t
 | 0, h, _ => by omega
 | n + 1, h, hc => by
  by_cases hjn : j = n
  ·subst hjn
   simp only [tmD, hj, hj', hd]
   rw [ZbG, ZbG]
   have := ZfI (D := D') (D' := D) (dst := dst) (v := v) (tm0 := tm0) t j (fun i hi _ => hs i (by omega))
   rw [this]
  ·have ih := ZrU hj hj' hs hd t n (by omega) fun i h1 h2 => hc i h1 (by omega)
   simp only [tmD, hs n (fun e => hjn e.symm)]
   cases hDn : D n with
   | false => exact ih
   | true =>
    cases he : dst n with
    | none => exact ih
    | some e =>
     have hne : e ≠ d := fun h' => hc n (by omega) (by omega) hDn (by rw [he, h'])
     simp only [ZbG] at ih ⊢
     rw [ih]
     by_cases h1 : t = e
     ·subst h1; simp [hne]
     ·simp [h1]
theorem ZsJ {j : Nat} (hj' : D' j = true) (hs : ∀ i, i ≠ j → D' i = D i) (hd : dst j = none) (t : Nat) (n : Nat) : get (tmD D' dst v tm0 n) t = get (tmD D dst v tm0 n) t :=
 ZfI t n fun i _ hi => hs i (by rintro rfl; rw [hd] at hi; cases hi)
theorem TRel.congr {tm tm' : List (Nat × PV)} {a : Act} (ht : TRel φ w S N tm a) (h : ∀ t, get tm' t = get tm t) : TRel φ w S N tm' a :=
 ⟨ht.1, ht.2.1, fun i p hp => ht.2.2 i p (by rw [← h]; exact hp)⟩
end
def Frz (H H' : List Mem) : Prop := H.length ≤ H'.length ∧ ∀ (id : Nat) (m : Mem), H[id]? = some m → H'[id]? = some m ∨ ∃ es z b, m = .row es z b ∧ H'[id]? = some (.row es z false)
theorem Frz.refl (H : List Mem) : Frz H H := ⟨Nat.le_refl _, fun _ _ h => .inl h⟩
theorem Frz.trans {H H' H'' : List Mem} (h : Frz H H') (h' : Frz H' H'') : Frz H H'' := ⟨Nat.le_trans h.1 h'.1, fun id m hm => by
 rcases h.2 id m hm with h1 | ⟨es, z, b, rfl, h1⟩
 ·exact h'.2 id m h1
 ·rcases h'.2 id _ h1 with h2 | ⟨es', z', b', h3, h2⟩
  ·exact .inr ⟨es, z, b, rfl, h2⟩
  ·cases h3; exact .inr ⟨es, z, b, rfl, h2⟩⟩
theorem Frz.sub {H H' : List Mem} (h : Frz H H') : Sub H H' := fun id m hm => by
 rcases h.2 id m hm with h1 | ⟨es, z, b, rfl, h1⟩
 ·exact ⟨m, h1, simM.refl m⟩
 ·exact ⟨_, h1, by simp [simM]⟩
theorem Zek : ∀ (ids : List Nat) (H : List Mem), Frz H (freeze ids H)
 | [], H => Frz.refl H
 | i :: ids, H => by
  show Frz H (freeze ids (freeze1 H i))
  refine Frz.trans ⟨by rw [ZbC]; exact Nat.le_refl _, ?_⟩ (Zek ids _)
  intro id m hm
  rcases ZaM H i id with h1 | ⟨rfl, es, z, b, h1, h2⟩
  ·exact .inl (by rw [h1]; exact hm)
  ·rw [hm] at h1; cases h1; exact .inr ⟨es, z, b, rfl, h2⟩
theorem Frz.app (H ms : List Mem) : Frz H (H ++ ms) := ⟨by simp, fun id m hm => .inl (by rw [List.getElem?_append_left (List.getElem?_eq_some_iff.1 hm).1]; exact hm)⟩
theorem Zin : ∀ (ids : List Nat) (H : List Mem) (id : Nat), id ∈ ids → ∀ es z m, (freeze ids H)[id]? = some (.row es z m) → m = false
 | i :: ids, H, id, hid, es, z, m, h => by
  have h' : (freeze ids (freeze1 H i))[id]? = some (.row es z m) := h
  by_cases hi : id ∈ ids
  ·exact Zin ids _ id hi es z m h'
  ·have hid : id = i := by rcases List.mem_cons.1 hid with h | h; exact h; exact absurd h hi
   subst hid
   obtain ⟨b, hb⟩ := Zet ids _ _ _ _ _ h'
   have : b = false := by
    rcases ZaM H id id with h1 | ⟨_, es', z', b', h1, h2⟩
    ·unfold freeze1 at hb
     split at hb
     ·rename_i hx
      rw [List.getElem?_set_self (List.getElem?_eq_some_iff.1 hx).1] at hb
      cases hb; rfl
     ·rename_i hno
      exact absurd hb (hno _ _ _)
    ·rw [h2] at hb; cases hb; rfl
   subst this
   rcases (Zek ids (freeze1 H id)).2 id _ hb with h3 | ⟨_, _, _, _, h3⟩
   ·rw [h'] at h3; cases h3; rfl
   ·rw [h'] at h3; cases h3; rfl
section
variable {P : Program} {h : Hints} {E : Ev} {w : World} {φ : Phi} {S : Nat → Prop} {B : Nat} {H H' : List Mem} {N : Nat}
theorem Inv.frz (hI : Inv φ H w S B) (hf : Frz H H') : ∃ S', Inv φ H' w S' B ∧ Evo H.length B φ S w φ S' w := by
 let l := (List.range H.length).filter fun i => match H'[i]? with | some (.row _ _ false) => true | _ => false
 obtain ⟨S', h1, h2, h3⟩ := hI.freeze l
 refine ⟨S', h1.reheap ?_ (by rw [ZaJ]; exact hf.1), h2⟩
 intro i l' hl
 left
 have hlt := (hI.live i l' hl).2.2
 obtain ⟨m, hm⟩ : ∃ m, H[i]? = some m := ⟨H[i], by simp [hlt]⟩
 rcases (Zek l H).2 i m hm with h4 | ⟨es, z, b, rfl, h4⟩
 ·rw [h4]
  rcases hf.2 i m hm with h5 | ⟨es, z, b, rfl, h5⟩
  ·exact h5
  ·have : i ∈ l := by
    simp only [l, List.mem_filter, List.mem_range]
    exact ⟨hlt, by rw [h5]⟩
   have := Zin l H i this _ _ _ h4
   subst this
   exact h5
 ·rw [h4]
  rcases hf.2 i _ hm with h5 | ⟨es', z', b', h6, h5⟩
  ·cases b with
   | false => exact h5
   | true =>
    -- frozen only where the later memory has it frozen
    have : i ∉ l := by
     simp only [l, List.mem_filter, List.mem_range]
     rintro ⟨_, hx⟩
     rw [h5] at hx
     cases hx
    exfalso
    have keep : ∀ (ids : List Nat) (H : List Mem), i ∉ ids → (Am.freeze ids H)[i]? = H[i]? := by
     intro ids
     induction ids with
     | nil => intro H _; rfl
     | cons j ids ih =>
      intro H hi
      show (Am.freeze ids (Am.freeze1 H j))[i]? = _
      rw [ih _ (fun hx => hi (List.mem_cons_of_mem _ hx))]
      rcases ZaM H j i with h7 | ⟨rfl, _⟩
      ·exact h7
      ·exact absurd List.mem_cons_self hi
    rw [keep l H this, hm] at h4
    cases h4
  ·cases h6; exact h5
end
end Go.Am
/-
 Regions that draw the order of their operations: every order comes to what the order of the text comes to.
-/
namespace Go.Am
variable [Laid]
open Go.RowKit
section
variable {P : Program} {h : Hints} {E : Ev} {w : World} {φ : Phi} {S : Nat → Prop} {B : Nat} {N : Nat} {ops : Array Oper} {ls : List Nat} {a : Act} {Q : Exit → Act → World → Prop}
theorem Zsi {o : Oper} {acc : List (Nat × Oper × List (Nat × PV) × PV)} {x : Nat × Oper × List (Nat × PV) × PV} (hx : x ∈ acc) (hn : ¬ (isW h o = true ∧ Zc0 o x.1 = true)) : x ∈ ZbH h o acc := by
 unfold ZbH
 cases hw : isW h o with
 | false => rw [cond_false]; exact hx
 | true =>
  rw [cond_true]
  have hn : Zc0 o x.1 = false := by cases hh : Zc0 o x.1 with
   | false => rfl
   | true => exact absurd ⟨hw, hh⟩ hn
  induction acc with
  | nil => cases hx
  | cons y acc ih =>
   show x ∈ (bif Zc0 o y.1 then _ else y :: _ : List _)
   rcases List.mem_cons.1 hx with rfl | hx
   ·rw [hn, cond_false]; exact List.mem_cons_self
   ·cases Zc0 o y.1 with
    | true => rw [cond_true]; exact ih hx
    | false => rw [cond_false]; exact List.mem_cons_of_mem _ (ih hx)
theorem Zqp {o : Oper} {acc : List (Nat × Oper × List (Nat × PV) × PV)} {x : Nat × Oper × List (Nat × PV) × PV} (hx : x ∈ ZbH h o acc) : x ∈ acc := by
 unfold ZbH at hx
 cases hw : isW h o with
 | false => rw [hw, cond_false] at hx; exact hx
 | true =>
  rw [hw, cond_true] at hx
  clear hw
  induction acc with
  | nil => cases hx
  | cons y acc ih =>
   have hx : x ∈ (bif Zc0 o y.1 then _ else y :: _ : List _) := hx
   cases hh : Zc0 o y.1 with
   | true => rw [hh, cond_true] at hx; exact List.mem_cons_of_mem _ (ih hx)
   | false =>
    rw [hh, cond_false] at hx
    rcases List.mem_cons.1 hx with rfl | hx
    ·exact List.mem_cons_self
    ·exact List.mem_cons_of_mem _ (ih hx)
theorem Zrg {o : Oper} : ZbH h o [] = [] := by
 unfold ZbH
 cases isW h o <;> rfl
theorem ZpJ {o : Oper} {j : Nat} (hw : Zc0 o j = true) : ∃ e ∈ o.after, Region.binds .any e = true ∧ e.on = j := by
 unfold Zc0 at hw
 have gen : ∀ l : List Edge, (List.rec (motive := fun _ => Bool) false (fun e _ ih => bif Nat.beq e.on j && Region.binds .any e then true else ih) l) = true → ∃ e ∈ l, Region.binds .any e = true ∧ e.on = j := by
  intro l
  induction l with
  | nil => intro h; cases h
  | cons e l ih =>
   intro h
   have h : (bif Nat.beq e.on j && Region.binds .any e then true else _) = true := h
   cases hb : Nat.beq e.on j && Region.binds .any e with
   | true =>
    rw [Bool.and_eq_true] at hb
    exact ⟨e, List.mem_cons_self, hb.2, Nat.eq_of_beq_eq_true hb.1⟩
   | false =>
    rw [hb, cond_false] at h
    obtain ⟨e', h1, h2⟩ := ih h
    exact ⟨e', List.mem_cons_of_mem _ h1, h2⟩
 obtain ⟨e, h1, h2⟩ := gen _ hw
 exact ⟨e, by simpa using h1, h2⟩
theorem ZdV {o : Oper} {l : List Oper} {i : Nat} {acc : List (Nat × Oper × List (Nat × PV) × PV)} {s s' : St} (h1 : ZaU P h E N ops ls (o :: l) i acc s = some s') :
 ∃ s1, ZeM P h E N ops ls i o s = some s1 ∧ ((has i ls = true ∧ ∃ acc', ZtK P h E ops i o s acc = some acc' ∧ ZaU P h E N ops ls l (i + 1) acc' s1 = some s') ∨ (has i ls = false ∧ ZdA P h E (ZbH h o acc) s1.hp = some () ∧ ZaU P h E N ops ls l (i + 1) (ZbH h o acc) s1 = some s')) := by
 have h2 : ((ZeM P h E N ops ls i o s).bind fun s1 => bif has i ls then (ZtK P h E ops i o s acc).bind fun acc' => ZaU P h E N ops ls l (i + 1) acc' s1 else (ZdA P h E (ZbH h o acc) s1.hp).bind fun _ => ZaU P h E N ops ls l (i + 1) (ZbH h o acc) s1) = some s' := h1
 obtain ⟨s1, h3, h4⟩ := Zao h2
 refine ⟨s1, h3, ?_⟩
 cases hh : has i ls with
 | true => rw [hh, cond_true] at h4; exact .inl ⟨rfl, Zao h4⟩
 | false =>
  rw [hh, cond_false] at h4
  obtain ⟨u, h5, h6⟩ := Zao h4
  exact .inr ⟨rfl, h5, h6⟩
theorem ZnT {u v : PV} (hs : ZrW u v = true) : u = v := by
 unfold ZrW at hs
 split at hs
 ·simp only [Bool.and_eq_true, decide_eq_true_eq] at hs; obtain ⟨rfl, rfl⟩ := hs; rfl
 ·simp only [beq_iff_eq] at hs; subst hs; rfl
 ·rename_i a b
  simp only [beq_iff_eq] at hs
  obtain ⟨⟨la⟩⟩ := a
  obtain ⟨⟨lb⟩⟩ := b
  simp only at hs
  subst hs; rfl
 ·simp only [Bool.and_eq_true, Nat.beq_eq] at hs; obtain ⟨⟨⟨rfl, rfl⟩, rfl⟩, rfl⟩ := hs; rfl
 ·simp only [Bool.and_eq_true, Nat.beq_eq] at hs; obtain ⟨⟨rfl, rfl⟩, rfl⟩ := hs; rfl
 ·rfl
 ·rfl
 ·rfl
 ·cases hs
theorem ZoD : ∀ {a b : List PV}, ZnR a b = true → a = b
 | [], [], _ => rfl
 | [], _ :: _, h => by cases h
 | _ :: _, [], h => by cases h
 | x :: a, y :: b, h => by
  have h' : (ZrW x y && ZnR a b) = true := h
  rw [Bool.and_eq_true] at h'
  rw [ZnT h'.1, ZoD h'.2]
theorem Zk1 : ∀ {a b : List (List PV)}, Zmx a b = true → a = b
 | [], [], _ => rfl
 | [], _ :: _, h => by cases h
 | _ :: _, [], h => by cases h
 | x :: a, y :: b, h => by
  have h' : (ZnR x y && Zmx a b) = true := h
  rw [Bool.and_eq_true] at h'
  rw [ZoD h'.1, Zk1 h'.2]
theorem Zon {u v : PV} (hs : Zri u v = true) : u = v := by
 unfold Zri at hs
 split at hs
 ·rw [Zk1 hs]
 ·exact ZnT hs
theorem Zsa : ∀ {a b : List PV}, Zv4 a b = true → a = b
 | [], [], _ => rfl
 | [], _ :: _, h => by cases h
 | _ :: _, [], h => by cases h
 | x :: a, y :: b, h => by
  have h' : (Zri x y && Zv4 a b) = true := h
  rw [Bool.and_eq_true] at h'
  rw [Zon h'.1, Zsa h'.2]
theorem Zrh {u v : PV} (hs : ZeD u v = true) : u = v := by
 unfold ZeD at hs
 cases h : Ztt u v with
 | true =>
  unfold Ztt at h
  split at h
  ·rw [Zsa h]
  ·exact Zon h
 | false =>
  rw [h, cond_false] at hs
  exact @of_decide_eq_true _ (Classical.propDecidable _) hs
theorem ZmV (v : PV) : ZeD v v = true := by
 unfold ZeD
 cases Ztt v v with
 | true => rfl
 | false =>
  rw [cond_false]
  exact @decide_eq_true _ (Classical.propDecidable _) rfl
theorem ZiS {H : List Mem} : ∀ {acc : List (Nat × Oper × List (Nat × PV) × PV)}, ZdA P h E acc H = some () → ∀ x ∈ acc, ZaH P h E H (ev x.2.2.1) x.2.1 = some x.2.2.2
 | [], _, x, hx => by cases hx
 | y :: acc, ha, x, hx => by
  have ha' : ((ZaH P h E H (ev y.2.2.1) y.2.1).bind fun v => bif ZeD v y.2.2.2 then ZdA P h E acc H else none) = some () := ha
  obtain ⟨v, hv, ha'⟩ := Zao ha'
  cases hb : ZeD v y.2.2.2 with
  | false => rw [hb, cond_false] at ha'; cases ha'
  | true =>
   rw [hb, cond_true] at ha'
   rcases List.mem_cons.1 hx with rfl | hx
   ·rw [hv, Zrh hb]
   ·exact ZiS ha' x hx
theorem Zh3 {i : Nat} {o : Oper} {s : St} {acc acc' : List (Nat × Oper × List (Nat × PV) × PV)} (ha : ZtK P h E ops i o s acc = some acc') :
 (ZcZ ops s.tm o = some true ∧ ∃ v, ZaH P h E s.hp (ev s.tm) o = some v ∧ acc' = (i, o, s.tm, v) :: acc) ∨ (ZcZ ops s.tm o = some false ∧ acc' = acc) := by
 unfold ZtK at ha
 obtain ⟨b, hb, ha⟩ := Zao ha
 cases b with
 | true =>
  rw [cond_true] at ha
  cases hl : ZaH P h E s.hp (ev s.tm) o with
  | none => rw [hl] at ha; cases ha
  | some v => rw [hl] at ha; cases ha; exact .inl ⟨hb, v, rfl, rfl⟩
 | false => rw [cond_false] at ha; cases ha; exact .inr ⟨hb, rfl⟩
theorem ZmD {i : Nat} {o : Oper} {s s' : St} (hi : has i ls = true) (hst : ZeM P h E N ops ls i o s = some s') : s'.hp = s.hp := by
 unfold ZeM at hst
 rw [hi, cond_true] at hst
 unfold ZrY at hst
 obtain ⟨b, _, hst⟩ := Zao hst
 cases b with
 | true =>
  rw [cond_true] at hst
  obtain ⟨v, _, hst⟩ := Zao hst
  cases hp : Zer N o.dst v s.tm with
  | none => rw [hp] at hst; cases hst
  | some tm => rw [hp] at hst; cases hst; rfl
 | false =>
  rw [cond_false] at hst
  cases hp : Zer N o.dst (.tup []) s.tm with
  | none => rw [hp] at hst; cases hst
  | some tm => rw [hp] at hst; cases hst; rfl
theorem Zxk : ∀ (l : List Oper) (i : Nat) (acc : List (Nat × Oper × List (Nat × PV) × PV)) (st st' : St), ops.toList.drop i = l → i ≤ ops.size → ZaU P h E N ops ls l i acc st = some st' →
 (∀ x ∈ acc, ZaH P h E st.hp (ev x.2.2.1) x.2.1 = some x.2.2.2) →
 ∃ s : Nat → St, s i = st ∧ s ops.size = st' ∧ (∀ j o, i ≤ j → ops[j]? = some o → ZeM P h E N ops ls j o (s j) = some (s (j + 1))) ∧
   (∀ x ∈ acc, ∀ m, i ≤ m → m ≤ ops.size → (∀ n y, i ≤ n → n < m → ops[n]? = some y → has n ls = false → isW h y = true → Zc0 y x.1 = false) → ZaH P h E (s m).hp (ev x.2.2.1) x.2.1 = some x.2.2.2) ∧
   (∀ j o v, i ≤ j → ops[j]? = some o → has j ls = true → ZcZ ops (s j).tm o = some true → ZaH P h E (s j).hp (ev (s j).tm) o = some v → ∀ m, j ≤ m → m ≤ ops.size → (∀ n y, j ≤ n → n < m → ops[n]? = some y → has n ls = false → isW h y = true → Zc0 y j = false) → ZaH P h E (s m).hp (ev (s j).tm) o = some v)
 | [], i, acc, st, st', hl, hi, hst, hacc => by
  have hsi : ops.size ≤ i := by
   have := List.drop_eq_nil_iff.1 hl
   simpa using this
  cases hst
  refine ⟨fun _ => st, rfl, rfl, fun j o hj ho => ?_, fun x hx m _ _ _ => hacc x hx, fun j o v hj ho => ?_⟩
  ·have := (Array.getElem?_eq_some_iff.1 ho).1
   omega
  ·have := (Array.getElem?_eq_some_iff.1 ho).1
   omega
 | o :: l, i, acc, st, st', hl, hi, hst, hacc => by
  have hlt : i < ops.size := by
   rcases Nat.lt_or_ge i ops.size with h | h
   ·exact h
   ·rw [List.drop_eq_nil_of_le (by simpa using h)] at hl; cases hl
  have ho : ops[i]? = some o := by
   have : (ops.toList.drop i)[0]? = some o := by rw [hl]; rfl
   rw [List.getElem?_drop] at this
   simpa using this
  obtain ⟨s1, h1, h2⟩ := ZdV hst
  have main : ∃ acc', (∀ x ∈ acc, ¬ (has i ls = false ∧ isW h o = true ∧ Zc0 o x.1 = true) → x ∈ acc') ∧ (has i ls = true → ZcZ ops st.tm o = some true → ∀ v, ZaH P h E st.hp (ev st.tm) o = some v → (i, o, st.tm, v) ∈ acc') ∧ (∀ x ∈ acc', ZaH P h E s1.hp (ev x.2.2.1) x.2.1 = some x.2.2.2) ∧ ZaU P h E N ops ls l (i + 1) acc' s1 = some st' := by
   rcases h2 with ⟨h3, acc', h4, h5⟩ | ⟨h3, h4, h5⟩
   ·refine ⟨acc', ?_, ?_, ?_, h5⟩
    ·intro x hx _
     rcases Zh3 h4 with ⟨_, v, _, rfl⟩ | ⟨_, rfl⟩
     ·exact List.mem_cons_of_mem _ hx
     ·exact hx
    ·intro _ hw v hv
     rcases Zh3 h4 with ⟨_, v', hv', rfl⟩ | ⟨hw', _⟩
     ·rw [hv] at hv'; cases hv'; exact List.mem_cons_self
     ·rw [hw] at hw'; cases hw'
    ·rw [ZmD h3 h1]
     intro x hx
     rcases Zh3 h4 with ⟨_, v, hv, rfl⟩ | ⟨_, rfl⟩
     ·rcases List.mem_cons.1 hx with rfl | hx
      ·exact hv
      ·exact hacc x hx
     ·exact hacc x hx
   ·exact ⟨ZbH h o acc, fun x hx hn => Zsi hx fun ⟨w1, w2⟩ => hn ⟨h3, w1, w2⟩, fun h => (by rw [h3] at h; cases h), ZiS h4, h5⟩
  obtain ⟨acc', ha1, ha2, ha3, ha4⟩ := main
  obtain ⟨s, e1, e2, e3, e4, e5⟩ := Zxk l (i + 1) acc' s1 st' (by rw [← List.drop_drop, hl]; rfl) hlt ha4 ha3
  have hs : ∀ m, i + 1 ≤ m → (if m ≤ i then st else s m) = s m := fun m hm => if_neg (by omega)
  refine ⟨fun j => if j ≤ i then st else s j, by simp, by simp only [if_neg (Nat.not_le.2 hlt)]; exact e2, fun j x hj hx => ?_, fun x hx m hm hm' hq => ?_, fun j x v hj hx hb hw hv m hm hm' hq => ?_⟩
  ·by_cases hji : j = i
   ·subst hji
    rw [ho] at hx; cases hx
    simp only [Nat.le_refl, if_true, if_neg (show ¬ j + 1 ≤ j by omega), e1]
    exact h1
   ·simp only [if_neg (show ¬ j ≤ i by omega), if_neg (show ¬ j + 1 ≤ i by omega)]
    exact e3 j x (by omega) hx
  ·by_cases hmi : m = i
   ·subst hmi
    simp only [Nat.le_refl, if_true]
    exact hacc x hx
   ·simp only [hs m (by omega)]
    exact e4 x (ha1 x hx fun ⟨w0, w1, w2⟩ => (by have := hq i o (Nat.le_refl _) (by omega) ho w0 w1; rw [w2] at this; cases this)) m (by omega) hm' fun n y hn1 hn2 => hq n y (by omega) hn2
  ·by_cases hji : j = i
   ·subst hji
    rw [ho] at hx; cases hx
    simp only [Nat.le_refl, if_true] at hv hw ⊢
    by_cases hmj : m = j
    ·subst hmj
     simp only [Nat.le_refl, if_true]
     exact hv
    ·simp only [hs m (by omega)]
     exact e4 _ (ha2 hb hw v hv) m (by omega) hm' fun n y hn1 hn2 => hq n y (by omega) hn2
   ·simp only [hs j (by omega)] at hv hw ⊢
    simp only [hs m (by omega)]
    exact e5 j x v (by omega) hx hb hw hv m hm hm' hq
structure At (P : Program) (h : Hints) (E : Ev) (N : Nat) (ops : Array Oper) (ls : List Nat) (i : Nat) (o : Oper) (st st' : St) (v : PV) : Prop where
 put : Zer N o.dst v st.tm = some st'.tm
 kind : (ZcZ ops st.tm o = some false ∧ v = .tup [] ∧ st'.hp = st.hp) ∨
  (ZcZ ops st.tm o = some true ∧ has i ls = true ∧ ZaH P h E st.hp (ev st.tm) o = some v ∧ st'.hp = st.hp) ∨
  (ZcZ ops st.tm o = some true ∧ has i ls = false ∧ opA P h E st.hp (ev st.tm) o = some (v, st'.hp))
theorem Zn8 {x : Option (List (Nat × PV))} {hp : List Mem} {st : St} (hx : x.map (fun tm => (⟨tm, hp⟩ : St)) = some st) : x = some st.tm ∧ st.hp = hp := by
 cases x with
 | none => simp at hx
 | some y => simp at hx; subst hx; exact ⟨rfl, rfl⟩
theorem ZoM {i : Nat} {o : Oper} {st st' : St} (hst : ZeM P h E N ops ls i o st = some st') : ∃ v, At P h E N ops ls i o st st' v := by
 unfold ZeM at hst
 cases hl : has i ls with
 | true =>
  rw [hl, cond_true] at hst
  unfold ZrY at hst
  obtain ⟨b, hb, hst⟩ := Zao hst
  cases b with
  | true =>
   rw [cond_true] at hst
   obtain ⟨v, hv, hst⟩ := Zao hst
   obtain ⟨h1, h2⟩ := Zn8 hst
   exact ⟨v, h1, .inr (.inl ⟨hb, hl, hv, h2⟩)⟩
  | false =>
   rw [cond_false] at hst
   obtain ⟨h1, h2⟩ := Zn8 hst
   exact ⟨_, h1, .inl ⟨hb, rfl, h2⟩⟩
 | false =>
  rw [hl, cond_false] at hst
  unfold Zco at hst
  obtain ⟨b, hb, hst⟩ := Zao hst
  cases b with
  | true =>
   rw [cond_true] at hst
   obtain ⟨⟨v, H'⟩, hv, hst⟩ := Zao hst
   obtain ⟨h1, h2⟩ := Zn8 hst
   exact ⟨v, h1, .inr (.inr ⟨hb, hl, by rw [h2]; exact hv⟩)⟩
  | false =>
   rw [cond_false] at hst
   obtain ⟨h1, h2⟩ := Zn8 hst
   exact ⟨_, h1, .inl ⟨hb, rfl, h2⟩⟩
abbrev Zdh (ops : Array Oper) (i : Nat) : Option Tmp := (ops[i]?).bind (·.dst)
noncomputable abbrev kOf (h : Hints) (ls : List Nat) (ops : Array Oper) : Nat := ZdI h ls ops.toList 0
structure Tr (P : Program) (h : Hints) (E : Ev) (N : Nat) (ops : Array Oper) (ls : List Nat) (s : Nat → St) (v : Nat → PV) : Prop where
 at_ : ∀ i o, ops[i]? = some o → At P h E N ops ls i o (s i) (s (i + 1)) (v i)
 lt : ∀ j o u, ops[j]? = some o → has j ls = true → ZcZ ops (s j).tm o = some true → ZaH P h E (s j).hp (ev (s j).tm) o = some u → ∀ m, j ≤ m → m ≤ ops.size → (∀ n y, j ≤ n → n < m → ops[n]? = some y → has n ls = false → isW h y = true → Zc0 y j = false) → ZaH P h E (s m).hp (ev (s j).tm) o = some u
variable {s : Nat → St} {v : Nat → PV}
theorem Tr.op (_ : Tr P h E N ops ls s v) {i : Nat} (hi : i < ops.size) : ∃ o, ops[i]? = some o := ⟨ops[i], by simp [hi]⟩
theorem Tr.len1 (T : Tr P h E N ops ls s v) (hG : Good P h E) {i : Nat} (hi : i < ops.size) : (s i).hp.length ≤ (s (i + 1)).hp.length := by
 obtain ⟨o, ho⟩ := T.op hi
 rcases (T.at_ i o ho).kind with ⟨_, _, e⟩ | ⟨_, _, _, e⟩ | ⟨_, _, e⟩
 ·rw [e]; exact Nat.le_refl _
 ·rw [e]; exact Nat.le_refl _
 ·exact ZmN hG e
theorem Tr.len (T : Tr P h E N ops ls s v) (hG : Good P h E) {i : Nat} : ∀ j, i ≤ j → j ≤ ops.size → (s i).hp.length ≤ (s j).hp.length
 | 0, h, _ => by rw [show i = 0 from by omega]; exact Nat.le_refl _
 | j + 1, h, hj => by
  by_cases hij : i = j + 1
  ·subst hij; exact Nat.le_refl _
  ·exact Nat.le_trans (T.len hG j (by omega) (by omega)) (T.len1 hG (by omega))
theorem Tr.light (T : Tr P h E N ops ls s v) {i : Nat} (hi : i < ops.size) (hl : has i ls = true) : (s (i + 1)).hp = (s i).hp := by
 obtain ⟨o, ho⟩ := T.op hi
 rcases (T.at_ i o ho).kind with ⟨_, _, e⟩ | ⟨_, _, _, e⟩ | ⟨_, e, _⟩
 ·exact e
 ·exact e
 ·rw [hl] at e; cases e
theorem Tr.lights (T : Tr P h E N ops ls s v) {i : Nat} : ∀ j, i ≤ j → j ≤ ops.size → (∀ x, i ≤ x → x < j → has x ls = true) → (s j).hp = (s i).hp
 | 0, h, _, _ => by rw [show i = 0 from by omega]
 | j + 1, h, hj, hx => by
  by_cases hij : i = j + 1
  ·subst hij; rfl
  ·rw [T.light (by omega) (hx j (by omega) (by omega))]
   exact T.lights j (by omega) (by omega) fun x h1 h2 => hx x h1 (by omega)
theorem ZhU : kOf h ls ops ≤ ops.size := by have := (ZeW h ls ops.toList 0).2.1; simpa using this
theorem ZuY {i : Nat} {o : Oper} (ho : ops[i]? = some o) (hi : i < kOf h ls ops) (hl : has i ls = false) : isW h o = false :=
 (ZeW h ls ops.toList 0).2.2 i o (by simpa using ho) (by simpa using hi) (by simpa using hl)
theorem Tr.frz1 (T : Tr P h E N ops ls s v) {i : Nat} (hi : i < kOf h ls ops) : Frz (s i).hp (s (i + 1)).hp := by
 obtain ⟨o, ho⟩ := T.op (Nat.lt_of_lt_of_le hi ZhU)
 rcases (T.at_ i o ho).kind with ⟨_, _, e⟩ | ⟨_, _, _, e⟩ | ⟨_, e1, e⟩
 ·rw [e]; exact Frz.refl _
 ·rw [e]; exact Frz.refl _
 ·rw [Zpj (ZuY ho hi e1)] at e
  unfold ZiB at e
  cases hr : opR P h E (s i).hp (s i).hp.length (ev (s i).tm) o with
  | none => simp [hr] at e
  | some x =>
   obtain ⟨q, ms, fz⟩ := x
   simp only [hr, Option.map_some, Option.some.injEq, Prod.mk.injEq] at e
   rw [← e.2]
   exact (Zek _ _).trans (Frz.app _ _)
theorem Tr.frz (T : Tr P h E N ops ls s v) {i : Nat} : ∀ j, i ≤ j → j ≤ kOf h ls ops → Frz (s i).hp (s j).hp
 | 0, h, _ => by rw [show i = 0 from by omega]; exact Frz.refl _
 | j + 1, h, hj => by
  by_cases hij : i = j + 1
  ·subst hij; exact Frz.refl _
  ·exact (T.frz j (by omega) (by omega)).trans (T.frz1 (by omega))
theorem Zqt {d : Option Tmp} {u : PV} {tm tm' : List (Nat × PV)} (hp : Zer N d u tm = some tm') : (∀ t, d = some t → t < N ∧ tm' = (t, u) :: tm) ∧ (d = none → tm' = tm) := by
 unfold Zer at hp
 cases d with
 | none => simp at hp; exact ⟨by simp, fun _ => hp.symm⟩
 | some t =>
  simp only [] at hp
  obtain ⟨h1, h2⟩ := Zaq hp
  cases h2
  exact ⟨fun t' e => by cases e; exact ⟨h1, rfl⟩, by simp⟩
theorem Tr.full (T : Tr P h E N ops ls s v) {D : Nat → Bool} : ∀ m, m ≤ ops.size → (∀ i, i < m → D i = true) → tmD D (Zdh ops) v (s 0).tm m = (s m).tm
 | 0, _, _ => rfl
 | m + 1, hm, hD => by
  obtain ⟨o, ho⟩ := T.op (i := m) hm
  have ih := T.full m (by omega) fun i hi => hD i (by omega)
  have hp := Zqt (T.at_ m o ho).put
  simp only [tmD, hD m (by omega), Zdh, ho, Option.bind_some]
  cases hd : o.dst with
  | none => rw [(hp.2 hd)]; exact ih
  | some d => rw [(hp.1 d hd).2, ← ih]
structure DInv (h : Hints) (N : Nat) (ops : Array Oper) (ls : List Nat) (s : Nat → St) (v : Nat → PV) (B : Nat) (φ0 : Phi) (S0 : Nat → Prop) (w0 : World) (D : Nat → Bool) (m : Nat) (φ : Phi) (S : Nat → Prop) (w : World) (a : Act) : Prop where
 tm : TRel φ w S N (tmD D (Zdh ops) v (s 0).tm ops.size) a
 le : kOf h ls ops ≤ m ∧ m ≤ ops.size
 inv : Inv φ (s m).hp w S B
 un : ∀ i, i < kOf h ls ops → has i ls = false → D i = false → ∀ id, (s i).hp.length ≤ id → id < (s (i + 1)).hp.length → φ id = none
 hi : ∀ i, m ≤ i → i < ops.size → has i ls = false → D i = false
 lo : ∀ i, kOf h ls ops ≤ i → i < m → has i ls = false → D i = true
 ph : m = kOf h ls ops ∨ ∀ i, i < kOf h ls ops → has i ls = false → D i = true
 evo : Evo (s 0).hp.length B φ0 S0 w0 φ S w
variable {φ0 : Phi} {S0 : Nat → Prop} {w0 : World} {D : Nat → Bool} {m : Nat}
theorem Zp2 (hG : Good P h E) (hd : ZdR h ls ops = true) (T : Tr P h E N ops ls s v) (I : DInv h N ops ls s v B φ0 S0 w0 D m φ S w a) (hDc : Zjh ops D) {j : Nat} {o : Oper} (ho : ops[j]? = some o) (hDj : D j = false)
 (hDc' : Zjh ops fun i => D i || i == j) {K : Act → World → Prop} (hK : ∀ m' φ' S' w' a', DInv h N ops ls s v B φ0 S0 w0 (fun i => D i || i == j) m' φ' S' w' a' → K a' w') : wpOp P ops Q j K a w := by
 have hspec := Zic hd
 have hlt : j < ops.size := (Array.getElem?_eq_some_iff.1 ho).1
 have hne : ∀ i, i ≠ j → (D i || i == j) = D i := fun i hi => by simp [hi]
 have early : ∀ i x, i < j → ops[i]? = some x → D i = true ∨ (x.apart ops o = true ∧ (has i ls = true ∨ has j ls = true ∨ j < kOf h ls ops)) := by
  intro i x hij hx
  have := hspec.2 _ hDc' i j x o hij hx ho (by simp)
  rw [hne i (by omega)] at this
  exact this
 have late : ∀ i y, j < i → ops[i]? = some y → D i = true → o.apart ops y = true := by
  intro i y hij hy hDi
  rcases hspec.2 D hDc j i o y hij ho hy hDi with h1 | h1
  ·rw [hDj] at h1; cases h1
  ·exact h1.1
 have looks : ∀ t ∈ o.looksAt ops, get (tmD D (Zdh ops) v (s 0).tm ops.size) t = get (s j).tm t := by
  intro t ht
  have h1 : get (tmD D (Zdh ops) v (s 0).tm ops.size) t = get (tmD (fun i => decide (i < j)) (Zdh ops) v (s 0).tm ops.size) t := by
   refine ZfI t _ fun i hi hdt => ?_
   obtain ⟨x, hx⟩ := T.op hi
   have hdx : x.dst = some t := by simpa [Zdh, hx] using hdt
   rcases Nat.lt_trichotomy i j with h2 | h2 | h2
   ·rcases early i x h2 hx with h3 | h3
    ·simp [h3, h2]
    ·exact absurd ht ((Oper.apart_spec h3.1).1 t hdx)
   ·subst h2; simp [hDj]
   ·cases hDi : D i with
    | false => simp; omega
    | true => exact absurd ht ((Oper.apart_spec (late i x h2 hx hDi)).2.2 t hdx)
  rw [h1, ZhD (k := j) _ (by omega) (fun i h2 _ => by simp; omega), T.full j (by omega) (fun i h2 => by simp [h2])]
 have hput : ∀ t, get (tmD (fun i => D i || i == j) (Zdh ops) v (s 0).tm ops.size) t = get (match o.dst with | some d => (d, v j) :: tmD D (Zdh ops) v (s 0).tm ops.size | none => tmD D (Zdh ops) v (s 0).tm ops.size) t := by
  intro t
  cases hd : o.dst with
  | none => exact ZsJ (j := j) (by simp) (fun i hi => hne i hi) (by simp [Zdh, ho, hd]) t _
  | some d =>
   refine ZrU (j := j) hDj (by simp) (fun i hi => hne i hi) (by simp [Zdh, ho, hd]) t _ hlt ?_
   intro i h1 h2 h3 h4
   obtain ⟨y, hy⟩ := T.op h2
   exact (Oper.apart_spec (late i y h1 hy h3)).2.1 d hd (by simpa [Zdh, hy] using h4)
 have hat := T.at_ j o ho
 have puts : ∀ {φ' : Phi} {S' : Nat → Prop} {w' : World} {u : Value}, TRel φ' w' S' N (tmD D (Zdh ops) v (s 0).tm ops.size) a → VRel φ' w' S' (v j) u → TRel φ' w' S' N (tmD (fun i => D i || i == j) (Zdh ops) v (s 0).tm ops.size) (a.put o.dst u) := by
  intro φ' S' w' u ht hv
  refine TRel.congr (ZfS (tm' := match o.dst with | some d => (d, v j) :: tmD D (Zdh ops) v (s 0).tm ops.size | none => tmD D (Zdh ops) v (s 0).tm ops.size) ?_ ht hv) hput
  have hp := Zqt hat.put
  unfold Zer
  cases hd : o.dst with
  | none => rfl
  | some d => simp only [if_pos (hp.1 d hd).1]
 -- where the run stands behind it
 have next : ∀ {φ' : Phi} {S' : Nat → Prop} {w' : World} {a' : Act} (m' : Nat), m' = (if has j ls = true ∨ j < kOf h ls ops then m else j + 1) → TRel φ' w' S' N (tmD (fun i => D i || i == j) (Zdh ops) v (s 0).tm ops.size) a' → Inv φ' (s m').hp w' S' B → Evo (s 0).hp.length B φ S w φ' S' w' →
  (∀ i, i < kOf h ls ops → has i ls = false → D i = false → i ≠ j → ∀ id, (s i).hp.length ≤ id → id < (s (i + 1)).hp.length → φ' id = none) → K a' w' := by
  intro φ' S' w' a' m' hm' ht hI hE hun
  refine hK m' φ' S' w' a' ⟨ht, ?_, hI, ?_, ?_, ?_, ?_, I.evo.trans hE⟩
  ·rw [hm']; have := I.le; split <;> omega
  ·intro i h1 h2 h3
   have hij : i ≠ j := by rintro rfl; simp at h3
   rw [hne i hij] at h3
   exact hun i h1 h2 h3 hij
  ·intro i h1 h2 h3
   have hle := I.le
   by_cases hc : has j ls = true ∨ j < kOf h ls ops
   ·rw [if_pos hc] at hm'
    have hij : i ≠ j := by
     rintro rfl
     rcases hc with hc | hc
     ·rw [h3] at hc; cases hc
     ·omega
    show (D i || i == j) = false
    rw [hne i hij]
    exact I.hi i (by omega) h2 h3
   ·rw [if_neg hc] at hm'
    show (D i || i == j) = false
    rw [hne i (by omega)]
    have hjk : kOf h ls ops ≤ j := by omega
    refine I.hi i ?_ h2 h3
    rcases Nat.lt_or_ge j m with h4 | h4
    ·have := I.lo j hjk h4 (by cases hh : has j ls <;> simp_all)
     rw [hDj] at this; cases this
    ·omega
  ·intro i h1 h2 h3
   show (D i || i == j) = true
   by_cases hij : i = j
   ·simp [hij]
   ·rw [hne i hij]
    by_cases hc : has j ls = true ∨ j < kOf h ls ops
    ·rw [if_pos hc] at hm'
     exact I.lo i h1 (by omega) h3
    ·rw [if_neg hc] at hm'
     obtain ⟨x, hx⟩ := T.op (i := i) (by omega)
     rcases early i x (by omega) hx with h4 | ⟨_, h4⟩
     ·exact h4
     ·rcases h4 with h4 | h4
      ·rw [h3] at h4; cases h4
      ·exact absurd h4 hc
  ·by_cases hc : has j ls = true ∨ j < kOf h ls ops
   ·rw [if_pos hc] at hm'
    rcases I.ph with h1 | h1
    ·exact .inl (by omega)
    ·exact .inr fun i h2 h3 => by
      show (D i || i == j) = true
      simp [h1 i h2 h3]
   ·refine .inr fun i h2 h3 => ?_
    show (D i || i == j) = true
    obtain ⟨x, hx⟩ := T.op (i := i) (by have := ZhU (h := h) (ops := ops) (ls := ls); omega)
    rcases early i x (by omega) hx with h4 | ⟨_, h4⟩
    ·simp [h4]
    ·rcases h4 with h4 | h4
     ·rw [h3] at h4; cases h4
     ·exact absurd h4 hc
 -- the heap before an operation that is not light, from the first write on
 have same : has j ls = false → ¬ j < kOf h ls ops → (s j).hp = (s m).hp := by
  intro h1 h2
  have hmj : m ≤ j := by
   rcases Nat.lt_or_ge j m with h4 | h4
   ·have := I.lo j (by omega) h4 h1
    rw [hDj] at this; cases this
   ·exact h4
  refine T.lights j hmj (by omega) fun x h3 h4 => ?_
  cases hx : has x ls with
  | true => rfl
  | false =>
   have h5 := I.hi x h3 (by omega) hx
   obtain ⟨y, hy⟩ := T.op (i := x) (by omega)
   rcases early x y h4 hy with h6 | ⟨_, h6⟩
   ·rw [h5] at h6; cases h6
   ·rcases h6 with h6 | h6 | h6
    ·rw [hx] at h6; cases h6
    ·rw [h1] at h6; cases h6
    ·exact absurd h6 h2
 have hlen0 : (s 0).hp.length ≤ (s m).hp.length := T.len hG m (by omega) I.le.2
 have hw := Zl9 (ops := ops) looks
 unfold wpOp
 simp only [ho]
 rcases hat.kind with ⟨h1, h2, h3⟩ | ⟨h1, h2, h3, h4⟩ | ⟨h1, h2, h3⟩
 ·rw [Zdz (hw.trans h1) I.tm]
  simp only [Bool.false_eq_true, if_false]
  refine next _ rfl (puts I.tm (by rw [h2]; exact ZdK)) ?_ (Evo.refl _ _ _ _ _) (fun i h4 h5 h6 _ => I.un i h4 h5 h6)
  split
  ·exact I.inv
  ·rename_i hc
   rw [h3, same (by cases hh : has j ls <;> simp_all) (by omega)]
   exact I.inv
 ·rw [Zdz (hw.trans h1) I.tm]
  simp only [if_true]
  left
  have hjm : j ≤ m := Nat.le_of_lt (Nat.lt_of_lt_of_le (Zln hd h2) I.le.1)
  have hl : ZaH P h E (s m).hp (ev (tmD D (Zdh ops) v (s 0).tm ops.size)) o = some (v j) := by 
   rw [ZkA (Znr looks)]
   refine T.lt j o _ ho h2 h1 h3 m hjm I.le.2 fun n y hn1 hn2 hy hn3 hn4 => ?_
   have hkn : kOf h ls ops ≤ n := by
    rcases Nat.lt_or_ge n (kOf h ls ops) with h9 | h9
    ·have := ZuY hy h9 hn3; rw [hn4] at this; cases this
    ·exact h9
   have hDn := I.lo n hkn hn2 hn3
   cases hwt : Zc0 y j with
   | false => rfl
   | true =>
    obtain ⟨e, he1, he2, he3⟩ := ZpJ hwt
    have := hDc n y hy hDn e he1 he2
    rw [he3, hDj] at this; cases this
  unfold ZaH at hl
  obtain ⟨⟨q, ms, fz⟩, hr, hl⟩ := Zao hl
  split at hl
  ·rename_i q' heq
   cases heq
   cases hl
   refine Zrx hG I.inv I.tm hr (fun i m hm => by simp at hm) (fun id hid => by simp at hid) ?_
   intro u w' φ' S' h5 h6 h7 h8
   refine next m (by rw [if_pos (.inl h2)]) (puts (I.tm.evo h6 I.inv (Nat.le_refl _)) h7) h5 (h6.mono hlen0) ?_
   intro i h9 h10 h11 _ id h12 h13
   rw [h8 id (by simp)]
   exact I.un i h9 h10 h11 id h12 h13
  ·cases hl
 ·rw [Zdz (hw.trans h1) I.tm]
  simp only [if_true]
  left
  rw [← ZqM (Znr looks)] at h3
  by_cases hjk : j < kOf h ls ops
  ·
   have hmk : m = kOf h ls ops := by
    rcases I.ph with h4 | h4
    ·exact h4
    ·have := h4 j hjk h2; rw [hDj] at this; cases this
   have hW := ZuY ho hjk h2
   rw [Zpj hW] at h3
   unfold ZiB at h3
   cases hr : opR P h E (s j).hp (s j).hp.length (ev (tmD D (Zdh ops) v (s 0).tm ops.size)) o with
   | none => simp [hr] at h3
   | some x =>
    obtain ⟨q, ms, fz⟩ := x
    simp only [hr, Option.map_some, Option.some.injEq, Prod.mk.injEq] at h3
    obtain ⟨rfl, hhp⟩ := h3
    have hF1 : Frz (s (j + 1)).hp (s m).hp := by rw [hmk]; exact T.frz _ (by omega) (Nat.le_refl _)
    have hF0 : Frz (s j).hp (s m).hp := by rw [hmk]; exact T.frz _ (by omega) (Nat.le_refl _)
    have hl1 : (s (j + 1)).hp.length = (s j).hp.length + ms.length := by rw [← hhp]; simp [ZaJ]
    refine Zrx hG I.inv I.tm (Zok hF0.sub hr) ?_ ?_ ?_
    ·intro i x hx
     have hil := (List.getElem?_eq_some_iff.1 hx).1
     have h4 : (s (j + 1)).hp[(s j).hp.length + i]? = some x := by
      rw [← hhp, List.getElem?_append_right (by rw [ZaJ]; omega), ZaJ, show (s j).hp.length + i - (s j).hp.length = i from by omega]
      exact hx
     have h5 := I.un j hjk h2 hDj ((s j).hp.length + i) (by omega) (by omega)
     rcases hF1.2 _ _ h4 with h6 | ⟨es, z, b, rfl, h6⟩
     ·exact ⟨x, h6, .inl rfl, h5⟩
     ·exact ⟨_, h6, .inr ⟨es, z, b, rfl, rfl⟩, h5⟩
    ·intro id hid l es z b hl hm
     have hid' := ZwI hr id hid
     obtain ⟨m0, hm0⟩ : ∃ m0, (s j).hp[id]? = some m0 := ⟨(s j).hp[id], by simp [hid']⟩
     have hb : b = false := by
      obtain ⟨m1, hm1, hs1⟩ := Zda fz (s j).hp id m0 hm0
      have h4 : (s (j + 1)).hp[id]? = some m1 := by rw [← hhp, List.getElem?_append_left (by rw [ZaJ]; exact hid')]; exact hm1
      rcases hF1.2 id m1 h4 with h5 | ⟨es', z', b', _, h5⟩
      ·rw [hm] at h5; cases h5
       exact Zin fz _ id hid _ _ _ hm1
      ·rw [hm] at h5; cases h5; rfl
     subst hb
     exact (I.inv.row id l es z false hl hm).frz rfl
    ·intro u w' φ' S' h5 h6 h7 h8
     refine next m (by rw [if_pos (.inr hjk)]) (puts (I.tm.evo h6 I.inv (Nat.le_refl _)) h7) h5 (h6.mono hlen0) ?_
     intro i h9 h10 h11 h12 id h13 h14
     have : φ' id = φ id := by
      apply h8
      rcases Nat.lt_or_gt_of_ne h12 with h15 | h15
      ·have := T.len hG (i := i + 1) j (by omega) (by omega)
       omega
      ·have := T.len hG (i := j + 1) i (by omega) (by have := ZhU (h := h) (ops := ops) (ls := ls); omega)
       omega
     rw [this]
     exact I.un i h9 h10 h11 id h13 h14
  ·have hs := same h2 hjk
   have hc : ¬ (has j ls = true ∨ j < kOf h ls ops) := by simp [h2, hjk]
   refine Zuf hG (by rw [hs]; exact I.inv) I.tm h3 ?_
   intro u w' φ' S' h4 h5 h6
   refine next (j + 1) (by rw [if_neg hc]) (puts (I.tm.evo h5 I.inv (by rw [hs]; exact Nat.le_refl _)) h6) h4 (h5.mono (by rw [hs]; exact hlen0)) ?_
   intro i h7 h8 h9 _
   obtain ⟨x, hx⟩ := T.op (i := i) (by have := ZhU (h := h) (ops := ops) (ls := ls); omega)
   rcases early i x (by omega) hx with h10 | ⟨_, h10⟩
   ·rw [h9] at h10; cases h10
   ·rcases h10 with h10 | h10
    ·rw [h8] at h10; cases h10
    ·exact absurd h10 hc
theorem Zo8 {l : List Nat} {p q : Nat → Bool} {j : Nat} (h : ∀ x, q x = true → p x = true) (hj : j ∈ l) (h1 : p j = true) (h2 : q j = false) : l.countP q < l.countP p := by
 induction l with
 | nil => simp at hj
 | cons x l ih =>
  rw [List.countP_cons, List.countP_cons]
  have hle : l.countP q ≤ l.countP p := List.countP_mono_left fun y _ hy => h y hy
  rcases List.mem_cons.1 hj with rfl | hj
  ·simp [h1, h2]; omega
  ·have := ih hj
   cases hq : q x with
   | false => simp; split <;> omega
   | true => simp [h x hq]; omega
theorem Zta (hG : Good P h E) (hd : ZdR h ls ops = true) (T : Tr P h E N ops ls s v)
 (hQ : ∀ a' w' φ' S', Inv φ' (s ops.size).hp w' S' B → Evo (s 0).hp.length B φ0 S0 w0 φ' S' w' → TRel φ' w' S' N (s ops.size).tm a' → Q .normal a' w') :
 ∀ (fuel : Nat) (listed : Array Bool) (m : Nat) (φ : Phi) (S : Nat → Prop) (w : World) (a : Act), listed.size = ops.size → Zjh ops (fun i => listed.getD i false) → DInv h N ops ls s v B φ0 S0 w0 (fun i => listed.getD i false) m φ S w a →
   (List.range ops.size).countP (fun i => !listed.getD i false) ≤ fuel → wpAny P .any ops Q fuel listed a w := by
 -- nothing is ready: all is done
 have done : ∀ (listed : Array Bool) (m : Nat) (φ : Phi) (S : Nat → Prop) (w : World) (a : Act), listed.size = ops.size → DInv h N ops ls s v B φ0 S0 w0 (fun i => listed.getD i false) m φ S w a → (∀ i, i < ops.size → listed.getD i false = true) → Q .normal a w := by
  intro listed m φ S w a hsz I hall
  have hhp : (s ops.size).hp = (s m).hp := by
   refine T.lights ops.size I.le.2 (Nat.le_refl _) fun x h1 h2 => ?_
   cases hx : has x ls with
   | true => rfl
   | false =>
    have := I.hi x h1 h2 hx
    have hall2 := hall x h2
    rw [show listed.getD x false = false from this] at hall2
    cases hall2
  have htm := T.full (D := fun i => listed.getD i false) ops.size (Nat.le_refl _) hall
  exact hQ a w φ S (by rw [hhp]; exact I.inv) I.evo (by rw [← htm]; exact I.tm)
 have all : ∀ (listed : Array Bool), listed.size = ops.size → Region.ready .any ops listed = [] → ∀ i, i < ops.size → listed.getD i false = true := by
  intro listed hsz hr i
  induction i using Nat.strongRecOn with
  | ind i ih =>
   intro hi
   cases hc : listed.getD i false with
   | true => rfl
   | false =>
    exfalso
    have hmem : i ∈ Region.ready .any ops listed := by
     rw [mem_ready]
     refine ⟨?_, ops[i], by simp [hi], fun e he hb => ?_⟩
     ·have : i < listed.size := by omega
      simpa [this] using hc
     ·have := (Zic hd).1 i ops[i] (by simp [hi]) e he hb
      exact ih e.on this (by omega)
    rw [hr] at hmem
    simp at hmem
 intro fuel
 induction fuel with
 | zero =>
  intro listed m φ S w a hsz hcl I hc
  have hall : ∀ i, i < ops.size → listed.getD i false = true := by
   intro i hi
   cases hx : listed.getD i false with
   | true => rfl
   | false =>
    have : 0 < (List.range ops.size).countP (fun i => !listed.getD i false) := List.countP_pos_iff.2 ⟨i, by simpa using hi, by simp only [hx, Bool.not_false]⟩
    omega
  refine ⟨?_, done listed m φ S w a hsz I hall⟩
  cases hr : Region.ready .any ops listed with
  | nil => rfl
  | cons x r =>
   have hx : x ∈ Region.ready .any ops listed := by rw [hr]; exact List.mem_cons_self
   obtain ⟨h1, o, ho, _⟩ := mem_ready.1 hx
   have hlt := (Array.getElem?_eq_some_iff.1 ho).1
   have h2 := hall x hlt
   have h3 : x < listed.size := by omega
   simp [h3] at h1 h2
   rw [h1] at h2; cases h2
 | succ fuel ih =>
  intro listed m φ S w a hsz hcl I hc
  refine ⟨fun hr => done listed m φ S w a hsz I (all listed hsz hr), fun j hj => ?_⟩
  obtain ⟨h1, o, ho, hall⟩ := mem_ready.1 hj
  have hlt := (Array.getElem?_eq_some_iff.1 ho).1
  have hjl : j < listed.size := by omega
  have hDj : listed.getD j false = false := by simpa [hjl] using h1
  have hset : (fun i => (listed.setIfInBounds j true).getD i false) = fun i => listed.getD i false || i == j := by
   funext i
   by_cases hij : i = j
   ·subst hij; simp [hjl]
   ·rw [getD_set_ne false (fun e => hij e.symm)]; simp [hij]
  have hcl' : Zjh ops fun i => listed.getD i false || i == j := by
   intro x y hy hx e he hb
   show (listed.getD e.on false || e.on == j) = true
   have hx' : (listed.getD x false || x == j) = true := hx
   by_cases hxj : x = j
   ·subst hxj
    rw [ho] at hy; cases hy
    simp only [hall e he hb, Bool.true_or]
   ·have : listed.getD x false = true := by simpa only [show (x == j) = false from by simpa using hxj, Bool.or_false] using hx'
    have := hcl x y hy this e he hb
    simp only [show listed.getD e.on false = true from this, Bool.true_or]
  refine Zp2 hG hd T I hcl ho hDj hcl' ?_
  intro m' φ' S' w' a' I'
  refine ih _ m' φ' S' w' a' (by simpa using hsz) (by rw [hset]; exact hcl') (by rw [hset]; exact I') ?_
  have : (List.range ops.size).countP (fun i => !(listed.setIfInBounds j true).getD i false) < (List.range ops.size).countP (fun i => !listed.getD i false) := by
   refine Zo8 (j := j) (fun x hx => ?_) (by simpa using hlt) (by simp only [hDj, Bool.not_false]) ?_
   ·rw [show (listed.setIfInBounds j true).getD x false = (listed.getD x false || x == j) from congrFun hset x] at hx
    cases hxx : listed.getD x false with
    | true => simp only [hxx, Bool.true_or, Bool.not_true] at hx; cases hx
    | false => rfl
   ·rw [show (listed.setIfInBounds j true).getD j false = (listed.getD j false || j == j) from congrFun hset j]
    simp
  omega
theorem ZuN (hG : Good P h E) (hd : ZdR h ls ops = true) {s0 s' : St} (hst : ZaU P h E N ops ls ops.toList 0 [] s0 = some s') (hI : Inv φ s0.hp w S B) (ht : TRel φ w S N s0.tm a)
 (hQ : ∀ a' w' φ' S', Inv φ' s'.hp w' S' B → Evo s0.hp.length B φ S w φ' S' w' → TRel φ' w' S' N s'.tm a' → Q .normal a' w') : wpAny P .any ops Q ops.size (Array.replicate ops.size false) a w := by
 obtain ⟨s, rfl, rfl, hs, _, hlt⟩ := Zxk ops.toList 0 [] s0 s' rfl (Nat.zero_le _) hst (by simp)
 have hv : ∀ i, ∃ u, ∀ o, ops[i]? = some o → At P h E N ops ls i o (s i) (s (i + 1)) u := by
  intro i
  cases ho : ops[i]? with
  | none => exact ⟨.nilp, by simp⟩
  | some o =>
   obtain ⟨u, hu⟩ := ZoM (hs i o (Nat.zero_le _) ho)
   exact ⟨u, fun o' ho' => by cases ho'; exact hu⟩
 obtain ⟨v, hv⟩ := Classical.axiomOfChoice hv
 have T : Tr P h E N ops ls s v := ⟨fun i o ho => hv i o ho, fun j o u ho hb hw hl m hm hm' hq => hlt j o u (Nat.zero_le _) ho hb hw hl m hm hm' hq⟩
 obtain ⟨S1, h1, h2⟩ := hI.frz (T.frz (i := 0) (kOf h ls ops) (Nat.zero_le _) (Nat.le_refl _))
 have hfalse : (fun i => (Array.replicate ops.size false).getD i false) = fun _ => false := by
  funext i
  by_cases hi : i < ops.size <;> simp [hi]
 have hlen := T.len hG (i := 0) (kOf h ls ops) (Nat.zero_le _) ZhU
 refine Zta hG hd T (φ0 := φ) (S0 := S) (w0 := w) hQ ops.size _ (kOf h ls ops) φ S1 w a (by simp) (by rw [hfalse]; intro j o _ h; cases h) ?_ (Nat.le_trans List.countP_le_length (by simp))
 rw [hfalse]
 refine ⟨?_, ⟨Nat.le_refl _, ZhU⟩, h1, ?_, fun _ _ _ _ => rfl, fun i h3 h4 => by omega, .inl rfl, h2⟩
 ·rw [ZhD (k := 0) _ (Nat.zero_le _) fun _ _ _ => rfl]
  exact ht.evo h2 hI (Nat.le_refl _)
 ·intro i h3 _ _ id h4 _
  cases hc : φ id with
  | none => rfl
  | some l =>
   have := (hI.live id l hc).2.2
   have := T.len hG (i := 0) i (Nat.zero_le _) (by have := ZhU (h := h) (ops := ops) (ls := ls); omega)
   omega
end
end Go.Am
/-
 Soundness of the evaluator.
-/
namespace Go.Am
variable [Laid]
open Go.RowKit
noncomputable def Za6 (h : Hints) (fid : Nat) : Code → Bool
 | .region id ops draw => bif draw then ZdR h (h.light fid id) ops else (h.light fid id).isEmpty
 | .seq a b => Za6 h fid a && Za6 h fid b
 | .cond _ a b => Za6 h fid a && Za6 h fid b
 | .block _ b => Za6 h fid b
 | .loop b => Za6 h fid b
 | _ => true
noncomputable def ZjF (P : Program) (h : Hints) (f : Nat) : Bool :=
 match P.funcs[f]? with
 | some fn => match fn.body with
  | some c => !(fn.name == "runtime.NumGoroutine") && Za6 h f c
  | none => false
 | none => false
structure Static (P : Program) (h : Hints) : Prop where
 mixed : P.follows .mixedOrders = true
 fns : ∀ f, h.ok f = true → ZjF P h f = true
 prims : ∀ f, (h.prim f).isSome = true → Zun P f
section
variable {P : Program} {h : Hints} {E : Ev}
theorem ZcV (N : Nat) (ops : Array Oper) : ∀ (l : List Oper) (i : Nat) (s : St), ZaU P h E N ops [] l i [] s = ZdD P h E N ops l s
 | [], _, _ => rfl
 | o :: l, i, s => by
  show (ZeM P h E N ops [] i o s).bind (fun s' => (ZdA P h E (ZbH h o []) s'.hp).bind fun _ => ZaU P h E N ops [] l (i + 1) (ZbH h o []) s') = (Zco P h E N ops o s).bind fun s => ZdD P h E N ops l s
  have : ZeM P h E N ops [] i o s = Zco P h E N ops o s := rfl
  rw [this]
  congr 1
  funext s
  show (ZdA P h E (ZbH h o []) s.hp).bind (fun _ => ZaU P h E N ops [] l (i + 1) (ZbH h o []) s) = _
  rw [Zrg]
  exact ZcV N ops l (i + 1) s
theorem ZcT (hG : Good P h E) {N : Nat} {ops : Array Oper} {ls : List Nat} : ∀ (l : List Oper) (i : Nat) (acc : List (Nat × Oper × List (Nat × PV) × PV)) (s s' : St), ZaU P h E N ops ls l i acc s = some s' → s.hp.length ≤ s'.hp.length
 | [], _, _, s, s', h => by cases h; exact Nat.le_refl _
 | o :: l, i, acc, s, s', h => by
  obtain ⟨s1, h1, h2⟩ := ZdV h
  have h3 : s1.hp.length ≤ s'.hp.length := by
   rcases h2 with ⟨_, _, _, h2⟩ | ⟨_, _, h2⟩
   ·exact ZcT hG l (i + 1) _ s1 s' h2
   ·exact ZcT hG l (i + 1) _ s1 s' h2
  refine Nat.le_trans ?_ h3
  obtain ⟨v, hv⟩ := ZoM h1
  rcases hv.kind with ⟨_, _, e⟩ | ⟨_, _, _, e⟩ | ⟨_, _, e⟩
  ·rw [e]; exact Nat.le_refl _
  ·rw [e]; exact Nat.le_refl _
  ·exact ZmN hG e
def Hyp (c : Cx) (s : St) (e : Ex) (s' : St) (R : (Exit → Act → World → Prop) → Act → World → Prop) : Prop :=
 ∀ φ S w a B, Inv φ s.hp w S B → TRel φ w S c.N s.tm a → c.base ≤ s.hp.length → ∀ Q : Exit → Act → World → Prop,
 (∀ a' w' φ' S', Inv φ' s'.hp w' S' B → Evo c.base B φ S w φ' S' w' → TRel φ' w' S' c.N s'.tm a' → c.base ≤ s'.hp.length → Q (conv e) a' w') → R Q a w
def Zju (P : Program) (h : Hints) (E : Ev) : Prop := ∀ (c : Cx) (code : Code) (s : St) (e : Ex) (s' : St), E.ex c code s = some (e, s') → Za6 h c.fid code = true →
 Hyp c s e s' (fun Q a w => code.wp P Q a w) ∧ ∀ b, code = .loop b → ∃ r, Hyp c s e s' fun Q a w => Code.rounds P b Q r a w
theorem Zla (hS : Static P h) (hG : Good P h E) {c : Cx} {id : Nat} {ops : Array Oper} {draw : Bool} {s s' : St} (hst : Zoc P h E c.N (h.light c.fid id) ops s = some s')
 (hok : Za6 h c.fid (.region id ops draw) = true) {φ : Phi} {S : Nat → Prop} {w : World} {a : Act} {B : Nat} (hI : Inv φ s.hp w S B) (ht : TRel φ w S c.N s.tm a) (hb : c.base ≤ s.hp.length) {Q : Exit → Act → World → Prop}
 (hQ : ∀ a' w' φ' S', Inv φ' s'.hp w' S' B → Evo c.base B φ S w φ' S' w' → TRel φ' w' S' c.N s'.tm a' → c.base ≤ s'.hp.length → Q .normal a' w') : (Code.region id ops draw).wp P Q a w := by
 have hst' : ZaU P h E c.N ops (h.light c.fid id) ops.toList 0 [] s = some s' := by
  unfold Zoc at hst
  split at hst
  ·rename_i hl; rw [hl, ZcV]; exact hst
  ·exact hst
 have hlen := ZcT hG _ _ _ _ _ hst'
 cases draw with
 | true =>
  simp only [Za6, cond_true] at hok
  apply wp_region_any hS.mixed
  have hbel : Below w.heap.size w { w with drawn := w.drawn + 1 } := ⟨rfl, rfl, rfl, Nat.le_refl _, fun _ _ => rfl⟩
  obtain ⟨h1, h2⟩ := hI.foreign hbel
  refine ZuN hG hok hst' h1 (ht.evo h2 hI (Nat.le_refl _)) ?_
  intro a' w' φ' S' h3 h4 h5
  exact hQ a' w' φ' S' h3 ((h2.mono hb).trans (h4.mono hb)) h5 (by omega)
 | false =>
  simp only [Za6, cond_false, List.isEmpty_iff] at hok
  rw [hok, ZcV] at hst'
  apply wp_region
  exact Zi6 hG c.base ops.toList 0 s s' φ S a w rfl hst' hI ht hb hQ
theorem ZvZ (hS : Static P h) (hG : Good P h E) (hX : Zju P h E) : Zju P h (step P h E) := by
 intro c code s e s' hst hok
 -- a loop's rounds; whatever is no loop runs as it stands
 cases code with
 | loop b =>
  simp only [step] at hst
  have hok' : Za6 h c.fid b = true := by simpa only [Za6] using hok
  obtain ⟨s0, h0, hst⟩ := Zao hst
  obtain ⟨⟨e1, s1⟩, h1, h2⟩ := Zao hst
  have main : ∃ r, Hyp c s e s' fun Q a w => Code.rounds P b Q r a w := by
   cases e1 with
   | normal =>
    simp only [] at h2
    obtain ⟨r, hr⟩ := (hX c (.loop b) s1 e s' h2 hok).2 b rfl
    refine ⟨r + 1, ?_⟩
    intro φ S w a B hI ht hb Q hQ
    obtain ⟨φ0, hI0, ht0, hb0, hE0⟩ := Zdw h0 hI ht hb
    refine (hX c b s0 _ s1 h1 hok').1 φ0 S w a B hI0 ht0 hb0 _ ?_
    intro a1 w1 φ1 S1 h3 h4 h5 h6
    simp only [conv, Exit.then]
    refine hr φ1 S1 w1 a1 B h3 h5 h6 Q ?_
    intro a2 w2 φ2 S2 h7 h8 h9 h10
    exact hQ a2 w2 φ2 S2 h7 ((hE0.trans h4).trans h8) h9 h10
   | exit id =>
    simp only [Option.some.injEq, Prod.mk.injEq] at h2
    obtain ⟨rfl, rfl⟩ := h2
    refine ⟨1, ?_⟩
    intro φ S w a B hI ht hb Q hQ
    obtain ⟨φ0, hI0, ht0, hb0, hE0⟩ := Zdw h0 hI ht hb
    exact (hX c b s0 _ s1 h1 hok').1 φ0 S w a B hI0 ht0 hb0 _ fun a1 w1 φ1 S1 h3 h4 h5 h6 => hQ a1 w1 φ1 S1 h3 (hE0.trans h4) h5 h6
   | ret =>
    simp only [Option.some.injEq, Prod.mk.injEq] at h2
    obtain ⟨rfl, rfl⟩ := h2
    refine ⟨1, ?_⟩
    intro φ S w a B hI ht hb Q hQ
    obtain ⟨φ0, hI0, ht0, hb0, hE0⟩ := Zdw h0 hI ht hb
    exact (hX c b s0 _ s1 h1 hok').1 φ0 S w a B hI0 ht0 hb0 _ fun a1 w1 φ1 S1 h3 h4 h5 h6 => hQ a1 w1 φ1 S1 h3 (hE0.trans h4) h5 h6
  obtain ⟨r, hr⟩ := main
  exact ⟨fun φ S w a B hI ht hb Q hQ => wp_loop_rounds r (hr φ S w a B hI ht hb Q hQ), fun b' hb' => by cases hb'; exact ⟨r, hr⟩⟩
 | skip =>
  refine ⟨?_, by simp⟩
  intro φ S w a B hI ht hb Q hQ
  simp only [step, Option.some.injEq, Prod.mk.injEq] at hst
  obtain ⟨rfl, rfl⟩ := hst
  exact wp_skip (hQ a w φ S hI (Evo.refl _ _ _ _ _) ht hb)
 | label l =>
  refine ⟨?_, by simp⟩
  intro φ S w a B hI ht hb Q hQ
  simp only [step, Option.some.injEq, Prod.mk.injEq] at hst
  obtain ⟨rfl, rfl⟩ := hst
  exact wp_label (hQ a w φ S hI (Evo.refl _ _ _ _ _) ht hb)
 | exit id =>
  refine ⟨?_, by simp⟩
  intro φ S w a B hI ht hb Q hQ
  simp only [step, Option.some.injEq, Prod.mk.injEq] at hst
  obtain ⟨rfl, rfl⟩ := hst
  exact wp_exit (hQ a w φ S hI (Evo.refl _ _ _ _ _) ht hb)
 | ret =>
  refine ⟨?_, by simp⟩
  intro φ S w a B hI ht hb Q hQ
  simp only [step, Option.some.injEq, Prod.mk.injEq] at hst
  obtain ⟨rfl, rfl⟩ := hst
  exact wp_ret (hQ a w φ S hI (Evo.refl _ _ _ _ _) ht hb)
 | region id ops draw =>
  refine ⟨?_, by simp⟩
  intro φ S w a B hI ht hb Q hQ
  simp only [step] at hst
  cases hr : Zoc P h E c.N (h.light c.fid id) ops s with
  | none => rw [hr] at hst; simp at hst
  | some s1 =>
   rw [hr] at hst
   simp only [Option.map_some, Option.some.injEq, Prod.mk.injEq] at hst
   obtain ⟨rfl, rfl⟩ := hst
   exact Zla hS hG hr hok hI ht hb hQ
 | seq x y =>
  refine ⟨?_, by simp⟩
  intro φ S w a B hI ht hb Q hQ
  simp only [step] at hst
  simp only [Za6, Bool.and_eq_true] at hok
  obtain ⟨⟨e1, s1⟩, h1, h2⟩ := Zao hst
  refine wp_seq ?_
  cases e1 with
  | normal =>
   simp only [] at h2
   refine (hX c x s _ s1 h1 hok.1).1 φ S w a B hI ht hb _ ?_
   intro a1 w1 φ1 S1 h3 h4 h5 h6
   simp only [conv, Exit.then]
   refine (hX c y s1 e s' h2 hok.2).1 φ1 S1 w1 a1 B h3 h5 h6 Q ?_
   intro a2 w2 φ2 S2 h7 h8 h9 h10
   exact hQ a2 w2 φ2 S2 h7 (h4.trans h8) h9 h10
  | exit id =>
   simp only [Option.some.injEq, Prod.mk.injEq] at h2
   obtain ⟨rfl, rfl⟩ := h2
   exact (hX c x s _ s1 h1 hok.1).1 φ S w a B hI ht hb _ fun a1 w1 φ1 S1 h3 h4 h5 h6 => hQ a1 w1 φ1 S1 h3 h4 h5 h6
  | ret =>
   simp only [Option.some.injEq, Prod.mk.injEq] at h2
   obtain ⟨rfl, rfl⟩ := h2
   exact (hX c x s _ s1 h1 hok.1).1 φ S w a B hI ht hb _ fun a1 w1 φ1 S1 h3 h4 h5 h6 => hQ a1 w1 φ1 S1 h3 h4 h5 h6
 | cond x y z =>
  refine ⟨?_, by simp⟩
  intro φ S w a B hI ht hb Q hQ
  simp only [step] at hst
  simp only [Za6, Bool.and_eq_true] at hok
  obtain ⟨v, h1, h2⟩ := Zao hst
  cases v <;> simp only [] at h2 <;> try (cases h2; done)
  rename_i t
  have hv := Zay ht h1
  simp only [VRel] at hv
  refine wp_cond hv ?_
  refine (hX c _ s e s' h2 ?_).1 φ S w a B hI ht hb Q hQ
  cases t
  ·exact hok.2
  ·exact hok.1
 | block id b =>
  refine ⟨?_, by simp⟩
  intro φ S w a B hI ht hb Q hQ
  simp only [step] at hst
  simp only [Za6] at hok
  obtain ⟨⟨e1, s1⟩, h1, h2⟩ := Zao hst
  refine wp_block ?_
  refine (hX c b s _ s1 h1 hok).1 φ S w a B hI ht hb _ ?_
  intro a1 w1 φ1 S1 h3 h4 h5 h6
  have out : (Zev (h.keepB c.fid id) c s1).map (fun s'' => (Ex.normal, s'')) = some (e, s') → Q .normal a1 w1 := by
   intro hx
   cases hm : Zev (h.keepB c.fid id) c s1 with
   | none => simp [hm] at hx
   | some s2 =>
    simp only [hm, Option.map_some, Option.some.injEq, Prod.mk.injEq] at hx
    obtain ⟨rfl, rfl⟩ := hx
    obtain ⟨φ2, g1, g2, g3, g4⟩ := Zdw hm h3 h5 h6
    exact hQ a1 w1 φ2 S1 g1 (h4.trans g4) g2 g3
  cases e1 with
  | normal => exact out h2
  | ret =>
   simp only [Option.some.injEq, Prod.mk.injEq] at h2
   obtain ⟨rfl, rfl⟩ := h2
   exact hQ a1 w1 φ1 S1 h3 h4 h5 h6
  | exit j =>
   simp only [conv, Exit.inBlock]
   by_cases hj : j = id
   ·simp only [if_pos hj] at h2 ⊢
    exact out h2
   ·simp only [if_neg hj, Option.some.injEq, Prod.mk.injEq] at h2 ⊢
    obtain ⟨rfl, rfl⟩ := h2
    exact hQ a1 w1 φ1 S1 h3 h4 h5 h6
 | _ => simp [step] at hst
theorem ZmL {l : List PV} {vs : Array Value} {φ : Phi} {w : World} {S : Nat → Prop} (hv : VL φ w S l vs.toList) : VRel φ w S (Zbd l) (if h : vs.size = 1 then vs[0] else .tuple vs) := by
 have hlen := VL.length hv
 match l, hv with
 | [], hv =>
  simp only [Zbd, VRel]
  have : vs.size = 0 := by simpa using hlen
  rw [dif_neg (by omega)]
  exact ⟨vs, rfl, hv⟩
 | [p], hv =>
  simp only [VL] at hv
  obtain ⟨v, r, h1, h2, rfl⟩ := hv
  have : vs = #[v] := by apply Array.ext'; simpa using h1
  subst this
  simpa [Zbd] using h2
 | p :: q :: r, hv =>
  simp only [Zbd, VRel]
  have : vs.size = r.length + 2 := by simpa using hlen
  rw [dif_neg (by omega)]
  exact ⟨vs, rfl, hv⟩
def Zsv (tmps : Array Value) : ResultVar → Sem Value
 | .tmp t => pure (tmps.getD t undef)
 | .cell a t => do loadVar t (← asAddr (tmps.getD a undef))
theorem Zpo (fn : Func) (tmps : Array Value) : results fn tmps = (do let vs ← fn.results.mapM (Zsv tmps); pure (if h : vs.size = 1 then vs[0] else .tuple vs)) := rfl
theorem Zft {fn : Func} {tm : List (Nat × PV)} {H : List Mem} {vs : List PV} {φ : Phi} {S : Nat → Prop} {w : World} {B N : Nat} {a : Act} (hr : ZaO (Zh5 P tm H) fn.results.toList = some vs) (hI : Inv φ H w S B) (ht : TRel φ w S N tm a) :
 ∃ u, (results fn a.tmps).run P w = .ok u w ∧ VRel φ w S (Zbd vs) u := by
 have gen : ∀ (l : List ResultVar) (vs : List PV), ZaO (Zh5 P tm H) l = some vs →
  ∃ us, (l.mapM (Zsv a.tmps)).run P w = .ok us w ∧ VL φ w S vs us := by
  intro l
  induction l with
  | nil => intro vs h; simp [ZbF] at h; subst h; exact ⟨[], by simp, by simp only [VL]⟩
  | cons x l ih =>
   intro vs h
   obtain ⟨p, ps, h1, h2, rfl⟩ := ZaA h
   obtain ⟨us, h3, h4⟩ := ih ps h2
   cases x with
   | tmp t =>
    have := (ht.2.2 t p h1).2
    refine ⟨a.tmps.getD t undef :: us, ?_, _, us, rfl, this, h4⟩
    rw [List.mapM_cons]
    simp only [Zsv, Sem.run_bind, Sem.run_pure, Result.andThen_ok, h3]
   | cell x t =>
    simp only [Zh5] at h1
    obtain ⟨q, h5, h6⟩ := Zao h1
    have hq := (ht.2.2 x q h5).2
    obtain ⟨u, h7, h8⟩ := ZgA hI h6 hq
    refine ⟨u :: us, ?_, u, us, rfl, h8, h4⟩
    have : ∃ ad, a.tmps.getD x undef = .pointer (some ad) := by
     cases q <;> simp only [ZbB] at h6 <;> try (cases h6; done)
     ·simp only [VRel] at hq; obtain ⟨l, _, hq⟩ := hq; exact ⟨_, hq⟩
     ·simp only [VRel, IRel] at hq; obtain ⟨b, o, hq, _⟩ := hq; exact ⟨_, hq⟩
    obtain ⟨ad, had⟩ := this
    rw [had] at h7
    have h9 : (loadVar t ad).run P w = .ok u w := by simpa [Instr.loadAt, Instr.sureAddr] using h7
    rw [List.mapM_cons]
    simp only [Zsv, had, asAddr, Sem.run_bind, Sem.run_pure, Result.andThen_ok, h9, h3]
 obtain ⟨us, h1, h2⟩ := gen _ _ hr
 refine ⟨if h : us.toArray.size = 1 then us.toArray[0] else .tuple us.toArray, ?_, ZmL (by simpa using h2)⟩
 rw [Zpo, Array.mapM_eq_mapM_toList]
 simp only [Sem.run_bind, Sem.run_pure, Result.andThen_ok, Sem.run_map, h1]
theorem ZmW {f : FuncId} {args : List PV} {H H' : List Mem} {v : PV} (hr : (step P h E).rn f args H = some (v, H')) :
 ∃ fn code e s vs, h.ok f = true ∧ P.funcs[f]? = some fn ∧ fn.body = some code ∧ args.length ≤ fn.ntmps ∧ E.ex ⟨f, H.length, fn.ntmps⟩ code ⟨Za4 0 args, H⟩ = some (e, s) ∧ (e = .normal ∨ e = .ret) ∧
   ZaO (Zh5 P s.tm s.hp) fn.results.toList = some vs ∧ v = Zbd vs ∧ H' = s.hp := by
 simp only [step] at hr
 obtain ⟨hok, hr⟩ := Zaq hr
 split at hr
 ·rename_i fn hf
  split at hr
  ·rename_i code hb
   obtain ⟨hn, hr⟩ := Zaq hr
   obtain ⟨⟨e, s⟩, h1, hr⟩ := Zao hr
   have hmap : ∀ {x : Option (List PV)}, x.map (fun vs => (Zbd vs, s.hp)) = some (v, H') → ∃ vs, x = some vs ∧ v = Zbd vs ∧ H' = s.hp := by
    intro x hx
    cases x with
    | none => simp at hx
    | some vs => simp at hx; exact ⟨vs, rfl, hx.1.symm, hx.2.symm⟩
   cases e with
   | exit id => cases hr
   | normal =>
    obtain ⟨vs, h2, h3, h4⟩ := hmap hr
    exact ⟨fn, code, _, s, vs, hok, hf, hb, hn, h1, .inl rfl, h2, h3, h4⟩
   | ret =>
    obtain ⟨vs, h2, h3, h4⟩ := hmap hr
    exact ⟨fn, code, _, s, vs, hok, hf, hb, hn, h1, .inr rfl, h2, h3, h4⟩
  ·cases hr
 ·cases hr
def Zve (E : Ev) : Prop := ∀ (c : Cx) (code : Code) (s : St) (e : Ex) (s' : St), E.ex c code s = some (e, s') → c.base ≤ s.hp.length → c.base ≤ s'.hp.length
theorem ZlK {k : Option (List Nat × Bool)} {c : Cx} {s st : St} (h0 : Zev k c s = some st) (hb : c.base ≤ s.hp.length) : c.base ≤ st.hp.length := by
 unfold Zev at h0
 split at h0
 ·cases h0; exact hb
 ·rename_i ks comp
  cases comp with
  | true =>
   simp only [if_true] at h0
   obtain ⟨hz, _⟩ := Zaq h0
   omega
  | false =>
   simp only [Bool.false_eq_true, if_false, Option.some.injEq] at h0
   subst h0; exact hb
theorem Zps (hG : Good P h E) (hL : Zve E) : Zve (step P h E) := by
 intro c code s e s' hst hb
 cases code with
 | skip => simp only [step, Option.some.injEq, Prod.mk.injEq] at hst; rw [← hst.2]; exact hb
 | label l => simp only [step, Option.some.injEq, Prod.mk.injEq] at hst; rw [← hst.2]; exact hb
 | exit id => simp only [step, Option.some.injEq, Prod.mk.injEq] at hst; rw [← hst.2]; exact hb
 | ret => simp only [step, Option.some.injEq, Prod.mk.injEq] at hst; rw [← hst.2]; exact hb
 | region id ops draw =>
  simp only [step] at hst
  cases hr : Zoc P h E c.N (h.light c.fid id) ops s with
  | none => rw [hr] at hst; simp at hst
  | some s1 =>
   rw [hr] at hst
   simp only [Option.map_some, Option.some.injEq, Prod.mk.injEq] at hst
   rw [← hst.2]
   have hst' : ZaU P h E c.N ops (h.light c.fid id) ops.toList 0 [] s = some s1 := by
    unfold Zoc at hr
    split at hr
    ·rename_i hl; rw [hl, ZcV]; exact hr
    ·exact hr
   exact Nat.le_trans hb (ZcT hG _ _ _ _ _ hst')
 | seq x y =>
  simp only [step] at hst
  obtain ⟨⟨e1, s1⟩, h1, h2⟩ := Zao hst
  have h3 := hL _ _ _ _ _ h1 hb
  cases e1 with
  | normal => exact hL _ _ _ _ _ h2 h3
  | exit id => simp only [Option.some.injEq, Prod.mk.injEq] at h2; rw [← h2.2]; exact h3
  | ret => simp only [Option.some.injEq, Prod.mk.injEq] at h2; rw [← h2.2]; exact h3
 | cond x y z =>
  simp only [step] at hst
  obtain ⟨v, h1, h2⟩ := Zao hst
  cases v <;> simp only [] at h2 <;> try (cases h2; done)
  exact hL _ _ _ _ _ h2 hb
 | block id b =>
  simp only [step] at hst
  obtain ⟨⟨e1, s1⟩, h1, h2⟩ := Zao hst
  have h3 := hL _ _ _ _ _ h1 hb
  have out : (Zev (h.keepB c.fid id) c s1).map (fun s'' => (Ex.normal, s'')) = some (e, s') → c.base ≤ s'.hp.length := by
   intro hx
   cases hm : Zev (h.keepB c.fid id) c s1 with
   | none => simp [hm] at hx
   | some s2 =>
    simp only [hm, Option.map_some, Option.some.injEq, Prod.mk.injEq] at hx
    obtain ⟨rfl, rfl⟩ := hx
    exact ZlK hm h3
  cases e1 with
  | normal => exact out h2
  | ret => simp only [Option.some.injEq, Prod.mk.injEq] at h2; rw [← h2.2]; exact h3
  | exit j =>
   simp only [] at h2
   split at h2
   ·exact out h2
   ·simp only [Option.some.injEq, Prod.mk.injEq] at h2; rw [← h2.2]; exact h3
 | loop b =>
  simp only [step] at hst
  obtain ⟨s0, h0, hst⟩ := Zao hst
  obtain ⟨⟨e1, s1⟩, h1, h2⟩ := Zao hst
  have hb0 : c.base ≤ s0.hp.length := ZlK h0 hb
  have h3 := hL _ _ _ _ _ h1 hb0
  cases e1 with
  | normal => exact hL _ _ _ _ _ h2 h3
  | exit id => simp only [Option.some.injEq, Prod.mk.injEq] at h2; rw [← h2.2]; exact h3
  | ret => simp only [Option.some.injEq, Prod.mk.injEq] at h2; rw [← h2.2]; exact h3
 | _ => simp [step] at hst
theorem ZsD {f : FuncId} (hf : ZjF P h f = true) : Zun P f := by
 unfold ZjF at hf
 split at hf
 ·rename_i fn h1
  split at hf
  ·rename_i c h2
   simp only [Bool.and_eq_true, Bool.not_eq_true'] at hf
   exact ⟨fn, h1, by simp [h2], hf.1⟩
  ·cases hf
 ·cases hf
theorem ZpH {f : FuncId} {fn : Func} {c : Code} (hf : ZjF P h f = true) (h1 : P.funcs[f]? = some fn) (h2 : fn.body = some c) : Za6 h f c = true := by
 unfold ZjF at hf
 simp only [h1, h2, Bool.and_eq_true] at hf
 exact hf.2
theorem ZvB (hS : Static P h) (hX : Zju P h E) : Znb P (step P h E) := by
 intro f args H v H' hr φ S w B vals hI hv
 obtain ⟨fn, code, e, s, vs, hok, hf, hb, hn, h1, h2, h3, rfl, rfl⟩ := ZmW hr
 apply calls_of_wp hf hb
 have hvl := VL.length hv
 refine (hX _ code _ e s h1 (ZpH (hS.fns f hok) hf hb)).1 φ S w _ B hI ?_ (Nat.le_refl _) _ ?_
 ·refine ⟨by simp; omega, rfl, ?_⟩
  intro i p hp
  obtain ⟨_, h5⟩ := Zee args 0 i p hp
  simp only [Nat.sub_zero] at h5
  obtain ⟨u, h6, h7⟩ := VL.get hv h5
  have hi := (List.getElem?_eq_some_iff.1 h6).1
  refine ⟨by show i < fn.ntmps; omega, ?_⟩
  have : (vals.toArray ++ Array.replicate (fn.ntmps - vals.toArray.size) undef).getD i undef = u := by
   rw [Array.getD_eq_getD_getElem?, Array.getElem?_append_left (by simpa using hi)]
   simp [h6]
  rw [this]; exact h7
 ·intro a' w' φ' S' h5 h6 h7 _
  obtain ⟨u, h8, h9⟩ := Zft (P := P) h3 h5 h7
  have hfin : a'.defers = [] ∧ ∃ v, (results fn a'.tmps).run P w' = .ok v w' ∧ ZvO s.hp H.length B φ S w (Zbd vs) (.returned v) w' :=
   ⟨h7.2.1, u, h8, u, φ', S', rfl, h5, h6, h9⟩
  rcases h2 with rfl | rfl
  ·exact hfin
  ·exact hfin
theorem Zdt (hS : Static P h) (hP : Zbf P h) : ∀ n, Good P h (Zec P h n) ∧ Zju P h (Zec P h n) ∧ Zve (Zec P h n)
 | 0 => ⟨⟨fun f args H v H' hr => (by cases hr), hP, fun f args H v H' hr => (by cases hr), fun f hf => hf.elim (fun ⟨_, _, _, hr⟩ => (by cases hr)) (hS.prims f)⟩,
     fun c code s e s' hst => (by cases hst), fun c code s e s' hst => by cases hst⟩
 | n + 1 => by
  obtain ⟨h1, h2, h3⟩ := Zdt hS hP n
  refine ⟨⟨ZvB hS h2, hP, ?_, ?_⟩, ZvZ hS h1 h2, Zps h1 h3⟩
  ·intro f args H v H' hr
   obtain ⟨fn, code, e, s, vs, hok, hf, hb, hn, h4, h5, h6, rfl, rfl⟩ := ZmW hr
   exact h3 _ _ _ _ _ h4 (Nat.le_refl _)
  ·rintro f (⟨args, H, ⟨v, H'⟩, hr⟩ | hp)
   ·obtain ⟨fn, code, e, s, vs, hok, _⟩ := ZmW hr
    exact ZsD (hS.fns f hok)
   ·exact hS.prims f hp
end
end Go.Am
/-
 What a claim's reading says of an argument: a plain value by content, of a certain form.
-/
namespace Go.Am
variable [Laid]
open Go.RowKit
inductive Ty where
 | bool
 | int (k : IntKind)
 | str
 | slice (e : Ty) (bytes : Nat)
 | agg (ps : List Ty)
 deriving Inhabited
mutual
def Zcd : Ty → List PV → Prop
 | .bool, cs => ∃ b, cs = [.bool b]
 | .int k, cs => ∃ n, cs = [.int k n] ∧ (Lit.int k n).wf = true
 | .str, cs => ∃ s, cs = [.str s] ∧ s.size ≤ reachBytes
 | .slice e bytes, cs => cs = [.nils] ∨ ∃ es, cs = [.lst es] ∧ es.length ≤ maxLen ∧ es.length * bytes ≤ reachBytes ∧ ∀ c ∈ es, Zcd e c
 | .agg ps, cs => HasTys ps cs
def HasTys : List Ty → List PV → Prop
 | [], cs => cs = []
 | p :: ps, cs => ∃ a b, cs = a ++ b ∧ Zcd p a ∧ HasTys ps b
end
noncomputable def Zfi (P : Program) (tot : Nat) (rec : TypeId → Option Ty) : List (Nat × TypeId) → Nat → Option (List Ty)
 | [], off => if off = tot then some [] else none
 | (o, t) :: r, off => if o = off then (rec t).bind fun x => (Zfi P tot rec r (off + P.cellsOf t)).map (x :: ·) else none
noncomputable def ZiO (P : Program) (t : TypeId) : Option (List (Nat × TypeId)) :=
 match P.underlying t with
 | some (.struct fs) => some (fs.toList.map fun f => (f.offset, f.type))
 | some (.array n e) => some ((List.range n).map fun i => (i * P.cellsOf e, e))
 | _ => none
noncomputable def ZkT (P : Program) : Nat → TypeId → Option Ty
 | 0, _ => none
 | n + 1, t => match P.underlying t with
  | some .bool => some .bool
  | some (.int k) => some (.int k)
  | some .string => some .str
  | some (.slice e) => (ZkT P n e).bind fun x => if 0 < P.cellsOf e then some (.slice x (P.bytesOf e)) else none
  | _ => (ZiO P t).bind fun segs => (Zfi P (P.cellsOf t) (ZkT P n) segs 0).map .agg
section
variable {H : Type} {enc : TypeId × Value → H} {P : Program} {w : World} {S : Nat → Prop}
theorem Zip : ∀ {l m : List PV} {vs us : List Value}, LRel w S l vs → LRel w S m us → LRel w S (l ++ m) (vs ++ us)
 | [], _, _, _, h, h' => by simp only [LRel] at h; subst h; simpa using h'
 | p :: ps, _, _, _, h, h' => by
  simp only [LRel] at h
  obtain ⟨v, r, rfl, h2, h3⟩ := h
  show LRel w S (p :: (ps ++ _)) (v :: (r ++ _))
  simp only [LRel]
  exact ⟨v, _, rfl, h2, Zip h3 h'⟩
theorem ZeI : ∀ {l : List PV} {vs : List Value}, LRel w S l vs → l.length = vs.length
 | [], _, h => by simp only [LRel] at h; subst h; rfl
 | p :: ps, _, h => by
  simp only [LRel] at h
  obtain ⟨v, r, rfl, _, h3⟩ := h
  simp [ZeI h3]
theorem Znk : ∀ {l : List PV} {vs : List Value} {b o : Nat}, LRel w S l vs → (∀ c ∈ l, ZbV c = true) → (∀ (j : Nat) (v : Value), vs[j]? = some v → w.cell? ⟨b, o + j, none⟩ = some v) → CsRel w S l b o
 | [], _, _, _, _, _, _ => by simp only [CsRel]
 | p :: ps, vs, b, o, h, h1, hc => by
  simp only [LRel] at h
  obtain ⟨v, r, rfl, h2, h3⟩ := h
  simp only [CsRel]
  exact ⟨⟨h1 p List.mem_cons_self, v, by simpa using hc 0 v rfl, h2⟩, Znk h3 (fun c hm => h1 c (List.mem_cons_of_mem _ hm)) fun j u hj => by rw [← hc (j + 1) u (by simpa using hj)]; congr 2; omega⟩
theorem Zn4 {z : Nat} : ∀ {l : List (List PV)} {b o : Nat}, (∀ c ∈ l, c.length = z) → (∀ (i : Nat) (c : List PV), l[i]? = some c → CsRel w S c b (o + i * z)) → EsRel w S l b o
 | [], _, _, _, _ => by simp only [EsRel]
 | c :: cs, b, o, hz, h => by
  simp only [EsRel]
  refine ⟨by simpa using h 0 c rfl, Zn4 (fun x hx => hz x (List.mem_cons_of_mem _ hx)) fun i x hx => ?_⟩
  have h1 := h (i + 1) x (by simpa using hx)
  rw [show o + c.length + i * z = o + (i + 1) * z from by rw [hz c List.mem_cons_self, Nat.add_mul]; omega]
  exact h1
def Lim (P : Program) (t : TypeId) (d : DataW H) : Prop := ∀ n ∈ d.weights P t, n ≤ reachBytes
theorem ZeF : ∀ {ds : List (DataW H)} {e : TypeId} {d : DataW H}, d ∈ ds → ∀ n ∈ d.weights P e, n ∈ DataW.weightsAll P e ds
 | x :: ds, e, d, hd, n, hn => by
  simp only [DataW.weightsAll, List.mem_append]
  rcases List.mem_cons.1 hd with rfl | hd
  ·exact .inl hn
  ·exact .inr (ZeF hd n hn)
def Got (w : World) (ty : Ty) (cs : List Value) : Prop := ∃ qs, Zcd ty qs ∧ LRel w (fun b => b < w.heap.size) qs cs ∧ ∀ q ∈ qs, ZbV q = true
theorem ZjQ {α : Type} (rec : TypeId → Option Ty) (f : TypeId → List Value → Option (DataW H × List MemPlace)) (hrec : ∀ t ty, rec t = some ty → ∀ cs d ps, f t cs = some (d, ps) → (∀ x ∈ ps, x.block < w.heap.size) → Lim P t d → Got w ty cs) (cs : List Value) (g : α → Nat × TypeId) :
 ∀ (l : List α) (off : Nat) (tys : List Ty) (xs : List (DataW H × List MemPlace)), Zfi P cs.length rec (l.map g) off = some tys → l.mapM (fun x => f (g x).2 ((cs.drop (g x).1).take (P.cellsOf (g x).2))) = some xs →
   (∀ x ∈ xs, ∀ p ∈ x.2, p.block < w.heap.size) → (∀ (i : Nat) (a : α) (x : DataW H × List MemPlace), l[i]? = some a → xs[i]? = some x → Lim P (g a).2 x.1) →
   ∃ qs, HasTys tys qs ∧ LRel w (fun b => b < w.heap.size) qs (cs.drop off) ∧ ∀ q ∈ qs, ZbV q = true
 | [], off, tys, xs, hs, hm, _, _ => by
  simp only [List.map_nil, Zfi] at hs
  obtain ⟨ho, hs⟩ := Zaq hs
  cases hs
  exact ⟨[], by simp only [HasTys], by rw [ho]; simp [LRel], by simp⟩
 | a :: l, off, tys, xs, hs, hm, hp, hl => by
  simp only [List.map_cons] at hs
  rw [show g a = ((g a).1, (g a).2) from rfl] at hs
  simp only [Zfi] at hs
  obtain ⟨ho, hs⟩ := Zaq hs
  obtain ⟨ty, h1, hs⟩ := Zao hs
  cases hr : Zfi P cs.length rec (l.map g) (off + P.cellsOf (g a).2) with
  | none => simp [hr] at hs
  | some tys' =>
   simp only [hr, Option.map_some, Option.some.injEq] at hs
   subst hs
   rw [List.mapM_cons] at hm
   cases hfa : f (g a).2 ((cs.drop (g a).1).take (P.cellsOf (g a).2)) with
   | none => rw [hfa] at hm; simp at hm
   | some x =>
    rw [hfa] at hm
    cases hml : l.mapM (fun x => f (g x).2 ((cs.drop (g x).1).take (P.cellsOf (g x).2))) with
    | none => rw [hml] at hm; simp at hm
    | some xs' =>
     rw [hml] at hm
     simp at hm
     subst hm
     obtain ⟨q1, h2, h3, h4⟩ := hrec _ _ h1 _ x.1 x.2 hfa (hp x List.mem_cons_self) (hl 0 a x rfl rfl)
     obtain ⟨q2, h5, h6, h7⟩ := ZjQ rec f hrec cs g l _ tys' xs' hr hml (fun y hy => hp y (List.mem_cons_of_mem _ hy)) (fun i b y hb hy => hl (i + 1) b y (by simpa using hb) (by simpa using hy))
     refine ⟨q1 ++ q2, ⟨q1, q2, rfl, h2, h5⟩, ?_, ?_⟩
     ·rw [ho] at h3
      have := Zip h3 h6
      rw [show cs.drop (off + P.cellsOf (g a).2) = (cs.drop off).drop (P.cellsOf (g a).2) from by rw [List.drop_drop], List.take_append_drop] at this
      exact this
     ·intro q hq
      rcases List.mem_append.1 hq with hq | hq
      ·exact h4 q hq
      ·exact h7 q hq
theorem Znp : ∀ (n : Nat) (t : TypeId) (ty : Ty), ZkT P n t = some ty → ∀ (fuel : Nat) (cs : List Value) (d : DataW H) (ps : List MemPlace), DataW.trod enc P w 0 (fun _ => true) true fuel t cs = some (d, ps) →
 (∀ x ∈ ps, x.block < w.heap.size) → Lim P t d → Got w ty cs
 | 0, t, ty, h => by simp [ZkT] at h
 | n + 1, t, ty, h => by
  have ih := Znp n
  intro fuel cs d ps ht hps hlim
  cases fuel with
  | zero => simp [DataW.trod] at ht
  | succ fuel =>
   have aggs : ∀ segs, ZiO P t = some segs → (ZiO P t).bind (fun segs => (Zfi P (P.cellsOf t) (ZkT P n) segs 0).map Ty.agg) = some ty → Got w ty cs := by
    intro segs hsegs hb
    rw [hsegs, Option.bind_some] at hb
    cases hst : Zfi P (P.cellsOf t) (ZkT P n) segs 0 with
    | none => simp [hst] at hb
    | some tys =>
     simp only [hst, Option.map_some, Option.some.injEq] at hb
     subst hb
     unfold ZiO at hsegs
     split at hsegs
     ·rename_i fs hu
      cases hsegs
      simp only [DataW.trod, hu] at ht
      obtain ⟨hlen, ht⟩ := Zaq ht
      cases hm : fs.toList.mapM (fun f => DataW.trod enc P w 0 (fun _ => true) true fuel f.type ((cs.drop f.offset).take (P.cellsOf f.type))) with
      | none => rw [hm] at ht; simp at ht
      | some xs =>
       rw [hm] at ht
       simp only [Option.map_some, Option.some.injEq, Prod.mk.injEq] at ht
       obtain ⟨rfl, rfl⟩ := ht
       have hxl := mapM_some_length hm
       obtain ⟨qs, h1, h2, h3⟩ := ZjQ (w := w) (P := P) (ZkT P n) (fun t cs => DataW.trod enc P w 0 (fun _ => true) true fuel t cs) (fun t ty h1 cs d ps h2 h3 h4 => ih t ty h1 fuel cs d ps h2 h3 h4) cs (fun f : Field => (f.offset, f.type)) fs.toList 0 tys xs (by rw [hlen]; exact hst) hm
        (fun x hx p hp => hps p (List.mem_flatMap.2 ⟨x, hx, hp⟩))
        (fun i a x ha hx m hm => hlim m (by
         simp only [DataW.weights, hu]
         exact DataW.weights_mem_each (j := i) (by simp [ha]) (by simp [hx]) m hm))
       exact ⟨qs, by simp only [Zcd]; exact h1, by simpa using h2, h3⟩
     ·rename_i k e hu
      cases hsegs
      simp only [DataW.trod, hu] at ht
      obtain ⟨hlen, ht⟩ := Zaq ht
      cases hm : (List.range k).mapM (fun i => DataW.trod enc P w 0 (fun _ => true) true fuel e ((cs.drop (i * P.cellsOf e)).take (P.cellsOf e))) with
      | none => rw [hm] at ht; simp at ht
      | some xs =>
       rw [hm] at ht
       simp only [Option.map_some, Option.some.injEq, Prod.mk.injEq] at ht
       obtain ⟨rfl, rfl⟩ := ht
       obtain ⟨qs, h1, h2, h3⟩ := ZjQ (w := w) (P := P) (ZkT P n) (fun t cs => DataW.trod enc P w 0 (fun _ => true) true fuel t cs) (fun t ty h1 cs d ps h2 h3 h4 => ih t ty h1 fuel cs d ps h2 h3 h4) cs (fun i : Nat => (i * P.cellsOf e, e)) (List.range k) 0 tys xs (by rw [hlen]; exact hst) hm
        (fun x hx p hp => hps p (List.mem_flatMap.2 ⟨x, hx, hp⟩))
        (fun i a x _ hx m hm => hlim m (by
         simp only [DataW.weights, hu]
         exact ZeF (List.mem_map_of_mem (List.mem_of_getElem? hx)) m hm))
       exact ⟨qs, by simp only [Zcd]; exact h1, by simpa using h2, h3⟩
     ·cases hsegs
   -- one cell
   have one : ∀ {v : Value} {q : PV}, Zcd ty [q] → IRel w (fun b => b < w.heap.size) q v → ZbV q = true → cs = [v] → Got w ty cs := by
    intro v q h1 h2 h3 h4
    subst h4
    exact ⟨[q], h1, by simp only [LRel]; exact ⟨v, [], rfl, h2, rfl⟩, by simpa using h3⟩
   unfold ZkT at h
   split at h
   ·rename_i hu
    cases h
    match cs, ht with
    | [.bool b], ht => exact one (v := .bool b) (q := .bool b) (by simp [Zcd]) (by simp only [IRel]) rfl rfl
    | [], ht => simp [DataW.trod, hu] at ht
    | v :: u :: r, ht => cases v <;> simp [DataW.trod, hu] at ht
    | [.int _ _], ht | [.float _ _], ht | [.string _], ht | [.pointer _], ht | [.slice _ _ _], ht | [.agg _], ht | [.tuple _], ht | [.nilFunc], ht | [.map _], ht | [.func _ _ _], ht => simp [DataW.trod, hu] at ht
    | [v], ht => cases v <;> first | (simp [DataW.trod, hu] at ht; done) | (rename_i b; exact one (v := .bool b) (q := .bool b) (by simp [Zcd]) (by simp only [IRel]) rfl rfl)
   ·rename_i k hu
    cases h
    match cs, ht with
    | [], ht => simp [DataW.trod, hu] at ht
    | v :: u :: r, ht => cases v <;> simp [DataW.trod, hu] at ht
    | [v], ht =>
     cases v <;> try (simp [DataW.trod, hu] at ht; done)
     rename_i k' m
     simp only [DataW.trod, hu] at ht
     obtain ⟨⟨rfl, hw⟩, ht⟩ := Zaq ht
     exact one (v := .int k' m) (q := .int k' m) (by simp only [Zcd]; exact ⟨m, rfl, hw⟩) (by simp only [IRel]) rfl rfl
   ·rename_i hu
    cases h
    match cs, ht with
    | [], ht => simp [DataW.trod, hu] at ht
    | v :: u :: r, ht => cases v <;> simp [DataW.trod, hu] at ht
    | [v], ht =>
     cases v <;> try (simp [DataW.trod, hu] at ht; done)
     rename_i s
     simp only [DataW.trod, hu] at ht
     obtain ⟨_, ht⟩ := Zaq ht
     cases ht
     have := hlim s.data.toList.length (by simp [DataW.weights])
     exact one (v := .string s) (q := .str s) (by simp only [Zcd]; exact ⟨s, rfl, by rw [Array.length_toList] at this; exact this⟩) (by simp only [IRel]) rfl rfl
   ·rename_i e hu
    obtain ⟨et, h1, h⟩ := Zao h
    obtain ⟨hz, h⟩ := Zaq h
    cases h
    match cs, ht with
    | [], ht => simp [DataW.trod, hu] at ht
    | v :: u :: r, ht => cases v <;> simp [DataW.trod, hu] at ht
    | [v], ht =>
     cases v <;> try (simp [DataW.trod, hu] at ht; done)
     rename_i ao len cap
     cases ao with
     | none =>
      cases len <;> cases cap <;> first
       | (simp [DataW.trod, hu] at ht; done)
       | exact one (v := .slice none 0 0) (q := .nils) (by simp [Zcd]) (by simp only [IRel]) rfl rfl
     | some ad =>
      simp only [DataW.trod, hu] at ht
      obtain ⟨⟨_, hlc, hcm⟩, ht⟩ := Zaq ht
      obtain ⟨elems, hm, ht⟩ := Zao ht
      have fin : ∀ {X : Option (List (DataW H × List MemPlace))}, (X.map fun rest => (DataW.slice (elems.map fun x => x.1) (rest.map fun x => x.1), MemPlace.row ad ((elems.length + rest.length) * P.cellsOf e) ++ (elems ++ rest).flatMap fun x => x.2)) = some (d, ps) →
       ∃ rest : List (DataW H × List MemPlace), DataW.slice (elems.map fun x => x.1) (rest.map fun x => x.1) = d ∧ MemPlace.row ad ((elems.length + rest.length) * P.cellsOf e) ++ (elems ++ rest).flatMap (fun x => x.2) = ps := by
       intro X hX
       cases X with
       | none => cases hX
       | some rest =>
        simp only [Option.map_some, Option.some.injEq, Prod.mk.injEq] at hX
        exact ⟨rest, hX.1, hX.2⟩
      obtain ⟨rest, rfl, rfl⟩ := fin ht
      have hel : elems.length = len := by have := mapM_some_length hm; simpa using this
      have each : ∀ i, ∃ q, i < len → Zcd et q ∧ (∀ c ∈ q, ZbV c = true) ∧ ∃ vals, w.cells? 0 (ad.add (i * P.cellsOf e)) (P.cellsOf e) = some vals ∧ LRel w (fun b => b < w.heap.size) q vals := by
       intro i
       by_cases hi : i < len
       ·have h2 := mapM_some_get hm i i (by simp [hi])
        obtain ⟨x, hx⟩ : ∃ x, elems[i]? = some x := ⟨elems[i], by simp [hel, hi]⟩
        rw [hx] at h2
        obtain ⟨vals, h3, h4⟩ := Zao h2
        obtain ⟨q, h5, h6, h7⟩ := ih e et h1 fuel vals x.1 x.2 h4
         (fun p hp => hps p (List.mem_append_right _ (List.mem_flatMap.2 ⟨x, List.mem_append_left _ (List.mem_of_getElem? hx), hp⟩)))
         (fun m hm => hlim m (by
          simp only [DataW.weights, hu, List.mem_cons, List.mem_append]
          exact .inr (.inl (ZeF (List.mem_map_of_mem (List.mem_of_getElem? hx)) m hm))))
        exact ⟨q, fun _ => ⟨h5, h7, vals, h3, h6⟩⟩
       ·exact ⟨[], fun h => absurd h hi⟩
      obtain ⟨q, hq⟩ := Classical.axiomOfChoice each
      have hwt := hlim ((elems.length + rest.length) * P.bytesOf e) (by simp [DataW.weights, hu])
      have hesl : ((List.range len).map q).length = len := by simp
      refine one (v := .slice (some ad) len cap) (q := .lst ((List.range len).map q)) ?_ ?_ rfl rfl
      ·simp only [Zcd]
       refine .inr ⟨_, rfl, by rw [hesl]; omega, ?_, ?_⟩
       ·rw [hesl]
        exact Nat.le_trans (Nat.mul_le_mul_right _ (by omega)) hwt
       ·intro c hc
        obtain ⟨i, hi, rfl⟩ := List.mem_map.1 hc
        exact (hq i (by simpa using hi)).1
      ·simp only [IRel]
       refine ⟨ad, cap, by rw [hesl], by rw [hesl]; exact hlc, ?_⟩
       by_cases hl0 : len = 0
       ·left; subst hl0; rfl
       ·right
        -- the place of the first cell
        obtain ⟨b, o, spot⟩ := ad
        have hspot : spot = none := by
         obtain ⟨_, _, vals, h3, _⟩ := hq 0 (by omega)
         obtain ⟨_, h5, h6⟩ := World.cells?_some h3
         have h7 := h6 0 hz
         obtain ⟨v0, hv0⟩ : ∃ v0, vals[0]? = some v0 := ⟨vals[0], by simp [h5, hz]⟩
         rw [hv0] at h7
         have := World.cell?_spot h7
         simpa [Addr.add] using this
        subst hspot
        have hadd : ∀ m, (⟨b, o, none⟩ : Addr).add m = ⟨b, o + m, none⟩ := by
         intro m; unfold Addr.add; split
         ·rename_i h0; subst h0; rfl
         ·rfl
        refine ⟨b, o, P.cellsOf e, rfl, ?_, ?_, Zn4 (z := P.cellsOf e) ?_ ?_⟩
        ·have : MemPlace.cell b o ∈ MemPlace.row ⟨b, o, none⟩ ((elems.length + rest.length) * P.cellsOf e) := by
          simp only [MemPlace.row, List.mem_map, List.mem_range]
          exact ⟨0, Nat.mul_pos (by omega) hz, by simp⟩
         exact hps _ (List.mem_append_left _ this)
        ·intro c hc
         obtain ⟨i, hi, rfl⟩ := List.mem_map.1 hc
         obtain ⟨_, _, vals, h3, h4⟩ := hq i (by simpa using hi)
         rw [ZeI h4, (World.cells?_some h3).2.1]
        ·intro c hc
         obtain ⟨i, hi, rfl⟩ := List.mem_map.1 hc
         obtain ⟨_, _, vals, h3, h4⟩ := hq i (by simpa using hi)
         rw [ZeI h4, (World.cells?_some h3).2.1]
        ·intro i c hc
         have hi : i < len := by
          have := (List.getElem?_eq_some_iff.1 hc).1
          simpa using this
         simp only [List.getElem?_map, List.getElem?_range hi, Option.map_some, Option.some.injEq] at hc
         subst hc
         obtain ⟨_, h7, vals, h3, h4⟩ := hq i hi
         obtain ⟨_, h5, h6⟩ := World.cells?_some h3
         refine Znk h4 h7 fun j v hj => ?_
         have hjl : j < P.cellsOf e := by
          have := (List.getElem?_eq_some_iff.1 hj).1
          omega
         have h8 := h6 j hjl
         have hadd2 : ((⟨b, o, none⟩ : Addr).add (i * P.cellsOf e)).add j = ⟨b, o + i * P.cellsOf e + j, none⟩ := by
          rw [hadd]; unfold Addr.add; split
          ·rename_i h0; subst h0; rfl
          ·rfl
         rw [hadd2, hj] at h8
         exact h8
   ·cases hs : ZiO P t with
    | none => rw [hs] at h; cases h
    | some segs => exact aggs segs hs h
end
end Go.Am
/-
 From "the evaluator answers true" to a law's claim.
-/
namespace Go.Am
variable [Laid]
open Go.ChangeShapes Go.WideShapes Go.ChangeAt Go.RowKit
def ZnU : Ty → PV → Prop
 | .agg ps, p => ∃ cs, p = .agg cs ∧ HasTys ps cs
 | ty, p => Zcd ty [p]
def ZeV : List Ty → List PV → Prop
 | [], qs => qs = []
 | t :: ts, qs => ∃ q r, qs = q :: r ∧ ZnU t q ∧ ZeV ts r
section
variable {H : Type} {enc : TypeId × Value → H} {P : Program} {w : World}
theorem Zmj {n : Nat} {t : TypeId} {ty : Ty} (h : ZkT P n t = some ty) : (∃ ps, ty = .agg ps ∧ ((∃ fs, P.underlying t = some (.struct fs)) ∨ ∃ k e, P.underlying t = some (.array k e))) ∨ ((∀ ps, ty ≠ .agg ps) ∧ ∀ v r base, Value.okWide P w r base t v → ∀ cs, v ≠ .agg cs) := by
 cases n with
 | zero => simp [ZkT] at h
 | succ n =>
  unfold ZkT at h
  split at h
  ·rename_i hu
   cases h
   refine .inr ⟨by simp, fun v r base hv cs => ?_⟩
   rintro rfl
   simp [Value.okWide, hu, Cell.okWide, Cell.ok] at hv
  ·rename_i hu
   cases h
   refine .inr ⟨by simp, fun v r base hv cs => ?_⟩
   rintro rfl
   simp [Value.okWide, hu, Cell.okWide, Cell.ok] at hv
  ·rename_i hu
   cases h
   refine .inr ⟨by simp, fun v r base hv cs => ?_⟩
   rintro rfl
   simp [Value.okWide, hu, Cell.okWide, Cell.ok] at hv
  ·rename_i hu
   obtain ⟨x, _, h⟩ := Zao h
   obtain ⟨_, h⟩ := Zaq h
   cases h
   refine .inr ⟨by simp, fun v r base hv cs => ?_⟩
   rintro rfl
   simp [Value.okWide, hu, Cell.okWide, Cell.ok] at hv
  ·obtain ⟨segs, hs, h⟩ := Zao h
   cases hx : Zfi P (P.cellsOf t) (ZkT P n) segs 0 with
   | none => simp [hx] at h
   | some tys =>
    simp only [hx, Option.map_some, Option.some.injEq] at h
    refine .inl ⟨tys, h.symm, ?_⟩
    unfold ZiO at hs
    split at hs
    ·rename_i fs hu; exact .inl ⟨fs, hu⟩
    ·rename_i k e hu; exact .inr ⟨k, e, hu⟩
    ·cases hs
theorem Zu6 {n : Nat} {t : TypeId} {ty : Ty} (hty : ZkT P n t = some ty) {v : Value} {d : DataW H} {ps : List MemPlace} (ht : DataW.Trod enc P w 0 (fun _ => true) true t v d ps) {r : Reach} {base : Nat} (hv : Value.okWide P w r base t v)
 (hps : ∀ x ∈ ps, x.block < w.heap.size) (hl : Lim P t d) : ∃ p, ZnU ty p ∧ IRel w (fun b => b < w.heap.size) p v := by
 obtain ⟨fuel, ht⟩ := ht
 obtain ⟨qs, h1, h2, h3⟩ := Znp n t ty hty fuel _ d ps ht hps hl
 rcases Zmj (w := w) hty with ⟨tys, rfl, hu⟩ | ⟨hna, hne⟩
 ·have : ∃ cs, v = .agg cs := by
   rcases hu with ⟨fs, hu⟩ | ⟨k, e, hu⟩
   ·simp only [Value.okWide, hu] at hv; exact ⟨_, hv.choose_spec.1⟩
   ·simp only [Value.okWide, hu] at hv; exact ⟨_, hv.choose_spec.1⟩
  obtain ⟨cs, rfl⟩ := this
  refine ⟨.agg qs, ⟨qs, rfl, by simpa only [Zcd] using h1⟩, ?_⟩
  simp only [IRel]
  exact ⟨cs, rfl, h3, h2⟩
 ·have hc : v.cells.toList = [v] := by
   cases v with
   | agg cs => exact absurd rfl (hne _ r base hv cs)
   | _ => rfl
  rw [hc] at h2
  cases qs with
  | nil => simp [LRel] at h2
  | cons q r =>
   simp only [LRel] at h2
   obtain ⟨v', r', h4, h5, h6⟩ := h2
   cases h4
   have hr : r = [] := by
    cases r with
    | nil => rfl
    | cons x y => simp [LRel] at h6
   subst hr
   refine ⟨q, ?_, h5⟩
   cases ty with
   | agg ps => exact absurd rfl (hna ps)
   | _ => exact h1
theorem Zol {n : Nat} {r : Reach} {base : Nat} : ∀ (ts : List TypeId) (vs : List Value) (ds : List (DataW H)) (ps : List MemPlace) (tys : List Ty), DataW.TrodAll enc P w 0 (fun _ => true) true ts vs ds ps → ZaO (ZkT P n) ts = some tys →
 (∀ (j : Nat) t v, ts[j]? = some t → vs[j]? = some v → Value.okWide P w r base t v) → (∀ x ∈ ps, x.block < w.heap.size) → (∀ (j : Nat) t d, ts[j]? = some t → ds[j]? = some d → Lim P t d) →
 ∃ qs, ZeV tys qs ∧ LRel w (fun b => b < w.heap.size) qs vs ∧ ds.length = ts.length
 | [], [], [], ps, tys, h, ht, _, _, _ => by
  simp [ZbF] at ht; subst ht
  exact ⟨[], by simp only [ZeV], by simp only [LRel], rfl⟩
 | t :: ts, v :: vs, d :: ds, ps, tys, h, ht, hv, hp, hl => by
  obtain ⟨p, q, h1, h2, rfl⟩ := h
  obtain ⟨ty, tys', h3, h4, rfl⟩ := ZaA ht
  obtain ⟨x, h5, h6⟩ := Zu6 h3 h1 (hv 0 t v rfl rfl) (fun y hy => hp y (List.mem_append_left _ hy)) (hl 0 t d rfl rfl)
  obtain ⟨qs, h7, h8, h9⟩ := Zol ts vs ds q tys' h2 h4 (fun j t v ht hv' => hv (j + 1) t v (by simpa using ht) (by simpa using hv')) (fun y hy => hp y (List.mem_append_right _ hy)) (fun j t d ht hd => hl (j + 1) t d (by simpa using ht) (by simpa using hd))
  exact ⟨x :: qs, by simp only [ZeV]; exact ⟨x, qs, rfl, h5, h7⟩, by simp only [LRel]; exact ⟨v, vs, rfl, h6, h8⟩, by simp [h9]⟩
 | [], _ :: _, _, _, _, h, _, _, _, _ => by simp [DataW.TrodAll] at h
 | [], [], _ :: _, _, _, h, _, _, _, _ => by simp [DataW.TrodAll] at h
 | _ :: _, [], _, _, _, h, _, _, _, _ => by simp [DataW.TrodAll] at h
 | _ :: _, _ :: _, [], _, _, h, _, _, _, _ => by simp [DataW.TrodAll] at h
theorem Zjj {w' : World} (hl : laidOutB P = true) (hb : Below w.heap.size w w') : ∀ (ts : List TypeId) (vs : List Value) (ds : List (DataW H)) (ps : List MemPlace), DataW.TrodAll enc P w 0 (fun _ => true) true ts vs ds ps →
 (∀ t ∈ ts, P.readableRec t = true ∧ t < P.types.size) → (∀ x ∈ ps, x.block < w.heap.size) → DataW.TrodAll enc P w' 0 (fun b => decide (b < w.heap.size)) true ts vs ds ps
 | [], [], [], ps, h, _, _ => h
 | t :: ts, v :: vs, d :: ds, ps, h, hr, hp => by
  obtain ⟨p, q, h1, h2, rfl⟩ := h
  exact ⟨p, q, Below.trod hl (hr t List.mem_cons_self).1 (hr t List.mem_cons_self).2 h1 hb (fun x hx => hp x (List.mem_append_left _ hx)), Zjj hl hb ts vs ds q h2 (fun x hx => hr x (List.mem_cons_of_mem _ hx)) (fun x hx => hp x (List.mem_append_right _ hx)), rfl⟩
 | [], _ :: _, _, _, h, _, _ => by simp [DataW.TrodAll] at h
 | [], [], _ :: _, _, h, _, _ => by simp [DataW.TrodAll] at h
 | _ :: _, [], _, _, h, _, _ => by simp [DataW.TrodAll] at h
 | _ :: _, _ :: _, [], _, h, _, _ => by simp [DataW.TrodAll] at h
theorem Zlw {h : Hints} (hS : Static P h) (hP : Zbf P h) (laid : laidOutB P = true) {f : FuncId} {fn : Func} {s : ChangeSpec} {tys : List Ty} {tb : TypeId} (hvars : s.vars = []) (hres : fn.resultTypes = #[tb]) (htb : P.underlying tb = some .bool)
 (hread : ∀ t ∈ fn.params.toList, P.readableRec t = true ∧ t < P.types.size) (htys : ZaO (ZkT P 20) fn.params.toList = some tys)
 (heval : ∀ qs, ZeV tys qs → ∃ n H', (Zec P h n).rn f qs [] = some (.bool true, H'))
 (hspec : ∀ ds : List (DataW H), ds.length = fn.params.size → s.fn H ds = { results := [.lit (.bool true)], args := ds, vars := [] })
 {W : World} {base : Nat} {args : Array Value} {ds gs : List (DataW H)} {before : List MemPlace} {apart fresh handsOn : Bool} (hlaid : Laid.ok (fun b => b < W.heap.size) W)
 (hval : ∀ (j : Nat) t v, fn.params[j]? = some t → args[j]? = some v → Value.okWide P W .any base t v) (hW : DataW.Whole enc P fn.params.toList s.vars apart W args.toList ds gs before)
 (hsz : (DataW.weightsEach P (fn.params.toList ++ s.plain.varTypes P) (ds ++ gs)).all (· ≤ reachBytes) = true) :
 Calls P f args W fun e W' => ∃ v, e = .returned v ∧ s.post enc P fn apart fresh handsOn false W args v W' := by
 have hlt := hW.lt
 have hW' := hW
 obtain ⟨p, q, hA, hV, rfl, _, _⟩ := hW
 rw [hvars] at hV
 obtain ⟨rfl, rfl⟩ := trodVars_none hV
 simp only [List.append_nil] at hsz hlt hW'
 obtain ⟨qs, h1, h2, h3⟩ := Zol fn.params.toList args.toList ds p tys hA htys (fun j t v ht hv => hval j t v (by simpa using ht) (by simpa using hv)) hlt (fun j t d ht hd n hn => by
  have hj : (fn.params.toList ++ s.plain.varTypes P)[j]? = some t := by rw [List.getElem?_append_left (List.getElem?_eq_some_iff.1 ht).1]; exact ht
  have := List.all_eq_true.1 hsz n (DataW.weights_mem_each hj hd n hn)
  simpa using this)
 obtain ⟨n, H', he⟩ := heval qs h1
 have hc := (Zdt hS hP n).1.rn f qs [] _ H' he (fun _ => none) (fun b => b < W.heap.size) W W.heap.size args.toList (Inv.empty _ W (fun _ hb => hb) hlaid) (ZdZ h2)
 rw [show args.toList.toArray = args from by simp] at hc
 refine hc.mono ?_
 rintro e W' ⟨u, φ', S', rfl, _, hev, hu⟩
 simp only [VRel] at hu
 subst hu
 have hsp := hspec ds (by simpa using h3)
 refine ⟨_, rfl, ds, [], p, [], p, [], by simpa using hW', ?_, ?_, ?_, hev.below.frame _, fun h => by cases h⟩
 ·rw [List.append_nil, hsp, hres]
  exact trodAll_mk1 (shut_bool htb true)
 ·rw [List.append_nil, hsp]
  exact Zjj laid hev.below _ _ _ _ hA hread hlt
 ·rw [hvars, List.append_nil, hsp]; rfl
end
end Go.Am
/-
 Hints from lists.
-/
namespace Go.Am
variable [Laid]
noncomputable def Zpw {α : Type} (l : List (Nat × α)) (i : Nat) : Option α :=
 List.rec none (fun p _ ih => bif Nat.beq i p.1 then some p.2 else ih) l
noncomputable def mkHints (ok opn mem imp : List Nat) (keep keepB : List (Nat × List (Nat × List Nat × Bool))) (light : List (Nat × List (Nat × List Nat))) (frz : List Nat) : Hints where
 ok := fun f => has f ok
 opn := fun f => has f opn
 mem := fun f => has f mem
 imp := fun f => has f imp
 keep := fun f r => (Zpw keep f).bind fun l => Zpw l r
 keepB := fun f r => (Zpw keepB f).bind fun l => Zpw l r
 light := fun f r => ((Zpw light f).bind fun l => Zpw l r).getD []
 frz := fun t => has t frz
 prim := fun _ => none
theorem static_of {P : Program} {ok opn mem imp : List Nat} {keep keepB : List (Nat × List (Nat × List Nat × Bool))} {light : List (Nat × List (Nat × List Nat))} {frz : List Nat} (hm : P.follows .mixedOrders = true)
 (hf : (ok.all fun f => ZjF P (mkHints ok opn mem imp keep keepB light frz) f) = true) : Static P (mkHints ok opn mem imp keep keepB light frz) :=
 ⟨hm, fun f h => List.all_eq_true.1 hf f (ZjH h), fun f h => by simp [mkHints] at h⟩
noncomputable def Zkj (r : Option (PV × List Mem)) : Bool :=
 match r with
 | some (.bool true, _) => true
 | _ => false
end Go.Am
/-
 The evaluator at every depth at once.
-/
namespace Go.Am
variable [Laid]
def Evt (p : Nat → Prop) : Prop := ∃ n, ∀ m, n ≤ m → p m
theorem Evt.of {p : Nat → Prop} (h : ∀ m, p m) : Evt p := ⟨0, fun m _ => h m⟩
theorem Evt.and {p q : Nat → Prop} (h : Evt p) (h' : Evt q) : Evt fun m => p m ∧ q m := by
 obtain ⟨n, h⟩ := h
 obtain ⟨n', h'⟩ := h'
 exact ⟨max n n', fun m hm => ⟨h m (by omega), h' m (by omega)⟩⟩
theorem Evt.mono {p q : Nat → Prop} (h : Evt p) (hpq : ∀ m, p m → q m) : Evt q := by
 obtain ⟨n, h⟩ := h
 exact ⟨n, fun m hm => hpq m (h m hm)⟩
structure Tends (Es : Nat → Ev) (L : Ev) : Prop where
 ex : ∀ c code s r, L.ex c code s = some r → Evt fun m => (Es m).ex c code s = some r
 rn : ∀ f a H r, L.rn f a H = some r → Evt fun m => (Es m).rn f a H = some r
section
variable (Es : Nat → Ev) (L : Ev)
def Ec {α : Type} (F : Ev → Option α) : Prop := ∀ r, F L = some r → Evt fun m => F (Es m) = some r
variable {Es L}
theorem Ec.const {α : Type} (x : Option α) : Ec Es L fun _ => x := fun _ h => Evt.of fun _ => h
theorem Ec.bind {α β : Type} {F : Ev → Option α} {G : α → Ev → Option β} (h : Ec Es L F) (h' : ∀ a, Ec Es L (G a)) : Ec Es L fun E => (F E).bind fun a => G a E := by
 intro r hr
 obtain ⟨a, h1, h2⟩ := Zao hr
 exact ((h a h1).and (h' a r h2)).mono fun m hm => by show ((F (Es m)).bind fun a => G a (Es m)) = some r; rw [hm.1]; exact hm.2
theorem Ec.map {α β : Type} {F : Ev → Option α} (g : α → β) (h : Ec Es L F) : Ec Es L fun E => (F E).map g := by
 intro r hr
 obtain ⟨a, h1, h2⟩ := ZvD hr
 exact (h a h1).mono fun m hm => by show (F (Es m)).map g = some r; rw [hm, ← h2]; rfl
theorem Ec.ite {α : Type} {c : Prop} [Decidable c] {F G : Ev → Option α} (h : Ec Es L F) (h' : Ec Es L G) : Ec Es L fun E => if c then F E else G E := by
 by_cases hc : c
 ·simpa only [if_pos hc] using h
 ·simpa only [if_neg hc] using h'
theorem Ec.cond {α : Type} {c : Bool} {F G : Ev → Option α} (h : Ec Es L F) (h' : Ec Es L G) : Ec Es L fun E => bif c then F E else G E := by
 cases c
 ·exact h'
 ·exact h
variable {P : Program} {h : Hints}
theorem Zna (hT : Tends Es L) (f : FuncId) (qs : List PV) : Ec Es L fun E => Zbk h E f qs := by
 unfold Zbk
 cases h.prim f with
 | none => exact Ec.bind (hT.rn f qs []) fun x => Ec.const _
 | some g => exact Ec.const _
theorem ZpD (hT : Tends Es L) (f : FuncId) (qs : List PV) (base : Nat) : Ec Es L fun E => Zc2 E f qs base := by
 unfold Zc2
 exact Ec.bind (hT.rn f qs []) fun x => Ec.const _
theorem ZoJ (hT : Tends Es L) (f : FuncId) (args : List PV) (H : List Mem) (base : Nat) : Ec Es L fun E => Zfk h E f args H base := by
 unfold Zfk
 refine Ec.bind (Ec.const _) fun qs => ?_
 refine Ec.cond ?_ ?_
 ·unfold ZvF; exact Ec.map _ (ZpD hT f qs base)
 ·unfold Znf; exact Ec.bind (Zna hT f qs) fun q => Ec.const _
theorem ZlI (hT : Tends Es L) (H : List Mem) (base : Nat) (ρ : Operand → Option PV) (f : FuncId) (c : Call) : Ec Es L fun E => Zd2 h E H base ρ f c := by
 unfold Zd2
 exact Ec.ite (Ec.const _) (Ec.bind (Ec.const _) fun vs => ZoJ hT f vs H base)
theorem ZqV (hT : Tends Es L) (H : List Mem) (base : Nat) (ρ : Operand → Option PV) (c : Call) : Ec Es L fun E => Zgw P h E H base ρ c := by
 unfold Zgw
 split
 ·exact Ec.const _
 ·exact ZlI hT H base ρ _ c
 ·exact Ec.const _
theorem Zwo (hT : Tends Es L) (H : List Mem) (base : Nat) (ρ : Operand → Option PV) (o : Oper) : Ec Es L fun E => opR P h E H base ρ o := by
 unfold opR
 split
 case h_23 => exact ZqV hT H base ρ _
 all_goals exact Ec.const _
theorem Zf6 (hT : Tends Es L) (H : List Mem) (ρ : Operand → Option PV) (o : Oper) : Ec Es L fun E => ZaH P h E H ρ o := by
 unfold ZaH
 exact Ec.bind (Zwo hT H _ ρ o) fun x => Ec.const _
theorem Zjf (hT : Tends Es L) (f : FuncId) (args : List PV) (H : List Mem) : Ec Es L fun E => Zcl h E f args H := by
 unfold Zcl
 exact Ec.ite (hT.rn f args H) (Ec.map _ (ZoJ hT f args H H.length))
theorem Zto (hT : Tends Es L) (H : List Mem) (ρ : Operand → Option PV) (f : FuncId) (c : Call) : Ec Es L fun E => Zk9 h E H ρ f c := by
 unfold Zk9
 exact Ec.bind (Ec.const _) fun vs => Zjf hT f vs H
theorem ZuR (hT : Tends Es L) (H : List Mem) (ρ : Operand → Option PV) (x : Operand) (c : Call) : Ec Es L fun E => Zsn h E H ρ x c := by
 unfold Zsn
 refine Ec.bind (Ec.const _) fun fv => ?_
 cases fv <;> first
  | exact Ec.const _
  | exact Ec.bind (Ec.const _) fun vs => Zjf hT _ _ H
theorem ZsN (hT : Tends Es L) (H : List Mem) (ρ : Operand → Option PV) (c : Call) : Ec Es L fun E => Zjz P h E H ρ c := by
 unfold Zjz
 split
 ·exact Ec.const _
 ·refine Ec.ite (Zto hT H ρ _ c) ?_
  unfold ZiB
  exact Ec.map _ (ZlI hT H H.length ρ _ c)
 ·exact ZuR hT H ρ _ c
 ·exact Ec.const _
theorem Zw2 (hT : Tends Es L) (H : List Mem) (ρ : Operand → Option PV) (o : Oper) : Ec Es L fun E => opA P h E H ρ o := by
 unfold opA
 split
 case h_23 => exact ZsN hT H ρ _
 all_goals exact Ec.const _
theorem Zlj (hT : Tends Es L) (N : Nat) (ops : Array Oper) (o : Oper) (s : St) : Ec Es L fun E => Zco P h E N ops o s := by
 unfold Zco
 refine Ec.bind (Ec.const _) fun b => Ec.cond (Ec.bind (Zw2 hT _ _ o) fun x => Ec.const _) (Ec.const _)
theorem Zi7 (hT : Tends Es L) (N : Nat) (ops : Array Oper) : ∀ (l : List Oper) (s : St), Ec Es L fun E => ZdD P h E N ops l s
 | [], s => Ec.const _
 | o :: l, s => Ec.bind (Zlj hT N ops o s) fun s' => Zi7 hT N ops l s'
theorem Ztb (hT : Tends Es L) (N : Nat) (ops : Array Oper) (ls : List Nat) (i : Nat) (o : Oper) (s : St) : Ec Es L fun E => ZeM P h E N ops ls i o s := by
 unfold ZeM
 refine Ec.cond ?_ (Zlj hT N ops o s)
 unfold ZrY
 exact Ec.bind (Ec.const _) fun b => Ec.cond (Ec.bind (Zf6 hT _ _ o) fun x => Ec.const _) (Ec.const _)
theorem ZnE (hT : Tends Es L) (H : List Mem) : ∀ acc : List (Nat × Oper × List (Nat × PV) × PV), Ec Es L fun E => ZdA P h E acc H
 | [] => Ec.const _
 | x :: acc => Ec.bind (Zf6 hT H _ x.2.1) fun _ => Ec.cond (ZnE hT H acc) (Ec.const _)
theorem Zvz (hT : Tends Es L) (ops : Array Oper) (i : Nat) (o : Oper) (s : St) (acc : List (Nat × Oper × List (Nat × PV) × PV)) : Ec Es L fun E => ZtK P h E ops i o s acc := by
 unfold ZtK
 exact Ec.bind (Ec.const _) fun b => Ec.cond (Ec.map _ (Zf6 hT _ _ o)) (Ec.const _)
theorem ZeK (hT : Tends Es L) (N : Nat) (ops : Array Oper) (ls : List Nat) : ∀ (l : List Oper) (i : Nat) (acc : List (Nat × Oper × List (Nat × PV) × PV)) (s : St), Ec Es L fun E => ZaU P h E N ops ls l i acc s
 | [], _, _, s => Ec.const _
 | o :: l, i, acc, s => Ec.bind (Ztb hT N ops ls i o s) fun s' => Ec.cond (Ec.bind (Zvz hT ops i o s acc) fun acc' => ZeK hT N ops ls l (i + 1) acc' s') (Ec.bind (ZnE hT _ (ZbH _ o acc)) fun _ => ZeK hT N ops ls l (i + 1) (ZbH _ o acc) s')
theorem ZvM (hT : Tends Es L) (N : Nat) (ls : List Nat) (ops : Array Oper) (s : St) : Ec Es L fun E => Zoc P h E N ls ops s := by
 unfold Zoc
 split
 ·exact Zi7 hT N ops _ s
 ·exact ZeK hT N ops _ _ _ _ s
theorem Zjm (hT : Tends Es L) : Tends (fun m => step P h (Es m)) (step P h L) := by
 refine ⟨fun c code s => ?_, fun f a H => ?_⟩
 ·show Ec Es L fun E => (step P h E).ex c code s
  cases code with
  | region id ops d =>
   simp only [step]
   exact Ec.map _ (ZvM hT _ _ _ _)
  | seq a b =>
   simp only [step]
   refine Ec.bind (hT.ex c a s) fun x => ?_
   obtain ⟨e, s'⟩ := x
   cases e
   ·exact hT.ex c b s'
   ·exact Ec.const _
   ·exact Ec.const _
  | cond x a b =>
   simp only [step]
   refine Ec.bind (Ec.const _) fun v => ?_
   cases v <;> first
    | exact Ec.const _
    | exact hT.ex _ _ _
  | block id b =>
   simp only [step]
   refine Ec.bind (hT.ex c b s) fun x => ?_
   exact Ec.const _
  | loop b =>
   simp only [step]
   refine Ec.bind (Ec.const _) fun s0 => Ec.bind (hT.ex c b s0) fun x => ?_
   obtain ⟨e, s'⟩ := x
   cases e
   ·exact hT.ex c (.loop b) s'
   ·exact Ec.const _
   ·exact Ec.const _
  | _ => exact Ec.const _
 ·show Ec Es L fun E => (step P h E).rn f a H
  simp only [step]
  refine Ec.ite ?_ (Ec.const _)
  split
  ·split
   ·refine Ec.ite ?_ (Ec.const _)
    exact Ec.bind (hT.ex _ _ _) fun x => Ec.const _
   ·exact Ec.const _
  ·exact Ec.const _
end
section
open Classical
noncomputable def lim (P : Program) (h : Hints) : Ev where
 ex := fun c code s => if H : ∃ r, Evt fun m => (Zec P h m).ex c code s = some r then some H.choose else none
 rn := fun f a M => if H : ∃ r, Evt fun m => (Zec P h m).rn f a M = some r then some H.choose else none
end
section
variable {P : Program} {h : Hints}
theorem ZeZ : Tends (Zec P h) (lim P h) := by
 refine ⟨fun c code s r hr => ?_, fun f a H r hr => ?_⟩
 ·simp only [lim] at hr
  split at hr
  ·rename_i hx
   cases hr
   exact hx.choose_spec
  ·cases hr
 ·simp only [lim] at hr
  split at hr
  ·rename_i hx
   cases hr
   exact hx.choose_spec
  ·cases hr
theorem Evt.det {α : Type} {F : Nat → Option α} {r r' : α} (h : Evt fun m => F m = some r) (h' : Evt fun m => F m = some r') : r = r' := by
 obtain ⟨n, hn⟩ := h.and h'
 have := hn n (Nat.le_refl _)
 have := this.1.symm.trans this.2
 exact Option.some.inj this
theorem Evt.succ {p : Nat → Prop} (h : Evt fun m => p (m + 1)) : Evt p := by
 obtain ⟨n, h⟩ := h
 refine ⟨n + 1, fun m hm => ?_⟩
 obtain ⟨k, rfl⟩ : ∃ k, m = k + 1 := ⟨m - 1, by omega⟩
 exact h k (by omega)
theorem Zew {c : Cx} {code : Code} {s : St} {r : Ex × St} (hr : (step P h (lim P h)).ex c code s = some r) : (lim P h).ex c code s = some r := by
 have h1 : Evt fun m => (Zec P h m).ex c code s = some r := Evt.succ ((Zjm ZeZ).ex c code s r hr)
 have hx : ∃ r, Evt fun m => (Zec P h m).ex c code s = some r := ⟨r, h1⟩
 simp only [lim]
 rw [dif_pos hx]
 exact congrArg some (Evt.det hx.choose_spec h1)
theorem Zws {f : FuncId} {a : List PV} {H : List Mem} {r : PV × List Mem} (hr : (step P h (lim P h)).rn f a H = some r) : (lim P h).rn f a H = some r := by
 have h1 : Evt fun m => (Zec P h m).rn f a H = some r := Evt.succ ((Zjm ZeZ).rn f a H r hr)
 have hx : ∃ r, Evt fun m => (Zec P h m).rn f a H = some r := ⟨r, h1⟩
 simp only [lim]
 rw [dif_pos hx]
 exact congrArg some (Evt.det hx.choose_spec h1)
theorem ZrJ {f : FuncId} {a : List PV} {H : List Mem} {r : PV × List Mem} (hr : (lim P h).rn f a H = some r) : ∃ n, (Zec P h n).rn f a H = some r := by
 obtain ⟨n, h1⟩ := ZeZ.rn f a H r hr
 exact ⟨n, h1 n (Nat.le_refl _)⟩
end
end Go.Am
/-
 Code by its structure; functions proved otherwise.
-/
namespace Go.Am
variable [Laid]
section
variable (P : Program) (h : Hints) (E : Ev)
noncomputable def Zfq (k : Option (List Nat × Bool)) (id : Nat) (c : Cx) : Ex × St → Option (Ex × St)
 | (.exit j, s') => if j = id then (Zev k c s').map fun s'' => (.normal, s'') else some (.exit j, s')
 | (.normal, s') => (Zev k c s').map fun s'' => (.normal, s'')
 | (.ret, s') => some (.ret, s')
noncomputable def ZeB (f : St → Option (Ex × St)) : Ex × St → Option (Ex × St)
 | (.normal, s') => f s'
 | (.exit j, s') => some (.exit j, s')
 | (.ret, s') => some (.ret, s')
noncomputable def Zmt (x y : Option (Ex × St)) : PV → Option (Ex × St)
 | .bool true => x
 | .bool false => y
 | _ => none
noncomputable def exS (c : Cx) : Code → St → Option (Ex × St)
 | .skip, s => some (.normal, s)
 | .label _, s => some (.normal, s)
 | .region id ops _, s => (Zoc P h E c.N (h.light c.fid id) ops s).map fun s' => (.normal, s')
 | .seq a b, s => (exS c a s).bind (ZeB (exS c b))
 | .cond x a b, s => (ev s.tm x).bind (Zmt (exS c a s) (exS c b s))
 | .block id b, s => (exS c b s).bind (Zfq (h.keepB c.fid id) id c)
 | .loop b, s => E.ex c (.loop b) s
 | .exit id, s => some (.exit id, s)
 | .ret, s => some (.ret, s)
 | _, _ => none
noncomputable def Zi8 (c : Cx) (b : Code) (s : St) : Option (Ex × St) := (Zev (h.keep c.fid (Zdp b)) c s).bind (exS P h E c b)
end
section
variable {P : Program} {h : Hints}
theorem Zdn (c : Cx) : ∀ (code : Code) (s : St) (r : Ex × St), exS P h (lim P h) c code s = some r → (lim P h).ex c code s = some r
 | .skip, s, r, hr => Zew hr
 | .label _, s, r, hr => Zew hr
 | .region id ops d, s, r, hr => Zew hr
 | .seq a b, s, r, hr => by
  simp only [exS] at hr
  obtain ⟨⟨e, s'⟩, h1, h2⟩ := Zao hr
  refine Zew ?_
  simp only [step, Zdn c a s _ h1, Option.bind_some]
  cases e with
  | normal => exact Zdn c b s' _ h2
  | exit j => exact h2
  | ret => exact h2
 | .cond x a b, s, r, hr => by
  simp only [exS] at hr
  obtain ⟨v, h1, h2⟩ := Zao hr
  refine Zew ?_
  simp only [step, h1, Option.bind_some]
  cases v with
  | bool t =>
   cases t with
   | true => exact Zdn c a s _ h2
   | false => exact Zdn c b s _ h2
  | _ => cases h2
 | .block id b, s, r, hr => by
  simp only [exS] at hr
  obtain ⟨⟨e, s'⟩, h1, h2⟩ := Zao hr
  refine Zew ?_
  simp only [step, Zdn c b s _ h1, Option.bind_some]
  cases e with
  | normal => exact h2
  | exit j => exact h2
  | ret => exact h2
 | .loop b, s, r, hr => hr
 | .exit id, s, r, hr => Zew hr
 | .ret, s, r, hr => Zew hr
theorem ZrL {c : Cx} {b : Code} {s s' : St} {r : Ex × St} (h1 : Zi8 P h (lim P h) c b s = some (.normal, s')) (h2 : (lim P h).ex c (.loop b) s' = some r) : (lim P h).ex c (.loop b) s = some r := by
 unfold Zi8 at h1
 obtain ⟨s0, h0, h1⟩ := Zao h1
 refine Zew ?_
 simp only [step, h0, Option.bind_some, Zdn c b s0 _ h1]
 exact h2
theorem ZlQ {c : Cx} {b : Code} {s s' : St} {e : Ex} (he : e ≠ .normal) (h1 : Zi8 P h (lim P h) c b s = some (e, s')) : (lim P h).ex c (.loop b) s = some (e, s') := by
 unfold Zi8 at h1
 obtain ⟨s0, h0, h1⟩ := Zao h1
 refine Zew ?_
 simp only [step, h0, Option.bind_some, Zdn c b s0 _ h1]
noncomputable def Zxu (P : Program) (rs : List ResultVar) : Ex × St → Option (PV × List Mem)
 | (.exit _, _) => none
 | (_, s) => (ZaO (Zh5 P s.tm s.hp) rs).map fun vs => (Zbd vs, s.hp)
theorem Zt9 {f : FuncId} {fn : Func} {code : Code} {args : List PV} {H : List Mem} {r : PV × List Mem} (hok : h.ok f = true) (hf : P.funcs[f]? = some fn) (hb : fn.body = some code) (hn : args.length ≤ fn.ntmps)
 (hr : (exS P h (lim P h) ⟨f, H.length, fn.ntmps⟩ code ⟨Za4 0 args, H⟩).bind (Zxu P fn.results.toList) = some r) : (lim P h).rn f args H = some r := by
 obtain ⟨⟨e, s⟩, h1, h2⟩ := Zao hr
 refine Zws ?_
 simp only [step, hok, if_true, hf, hb, hn, Zdn _ _ _ _ h1, Option.bind_some]
 cases e with
 | normal => exact h2
 | exit j => cases h2
 | ret => exact h2
noncomputable def Zus (qs : List PV) : Option PV := match qs with | [] => some (.bool true) | _ => none
noncomputable def ZkW (h : Hints) (l : List FuncId) : Hints := { h with prim := fun f => if has f l then some Zus else none }
theorem ZmF {l : List FuncId} (hS : Static P h) (hP : Zbf P h) (hl : ∀ f ∈ l, ∃ n, Zkj ((Zec P h n).rn f [] []) = true) : Zbf P (ZkW h l) := by
 intro f g hf qs v hg S w vals hs hlaid hv
 simp only [ZkW] at hf
 split at hf
 ·rename_i hm
  cases hf
  obtain ⟨n, hn⟩ := hl f (ZjH hm)
  cases qs with
  | cons _ _ => cases hg
  | nil =>
   cases hg
   obtain ⟨H', hr⟩ : ∃ H', (Zec P h n).rn f [] [] = some (.bool true, H') := by
    unfold Zkj at hn
    split at hn
    ·rename_i H' he; exact ⟨H', he⟩
    ·cases hn
   refine ((Zdt hS hP n).1.rn f [] [] _ H' hr _ S w w.heap.size vals (Inv.empty _ w hs hlaid) (ZdZ hv)).mono ?_
   rintro e w' ⟨u, φ', S', rfl, _, hev, hvr⟩
   refine ⟨u, rfl, hev.below, ?_⟩
   simp only [VRel] at hvr
   simp only [IRel]
   exact hvr
 ·cases hf
end
end Go.Am
/-
 Rules for walking code on plain values that are not closed.
-/
namespace Go.Am
variable [Laid]
def Holds {α : Type} (x : Option α) (Q : α → Prop) : Prop := ∃ r, x = some r ∧ Q r
theorem Holds.mono {α : Type} {x : Option α} {Q R : α → Prop} (h : Holds x Q) (hqr : ∀ r, Q r → R r) : Holds x R := by
 obtain ⟨r, h1, h2⟩ := h
 exact ⟨r, h1, hqr r h2⟩
theorem ZqJ {α β : Type} (f : α → Option β) : ZaO f [] = some [] := rfl
theorem ZaX {α β : Type} (f : α → Option β) (a : α) (l : List α) : ZaO f (a :: l) = (f a).bind fun b => (ZaO f l).bind fun s => some (b :: s) := rfl
section
variable {P : Program} {h : Hints} {E : Ev}
noncomputable def want (ds : List (Option Tmp)) (tm : List (Nat × PV)) (j : Nat) (w : Bool) : Option Bool :=
 match ((ds[j]?).bind id).bind (get tm) with
 | some (.bool b) => some (b == w)
 | some (.tup []) => some false
 | _ => none
noncomputable def opE (P : Program) (h : Hints) (E : Ev) (H : List Mem) (ρ : Operand → Option PV) (op : Op) : ZkB := opA P h E H ρ ⟨none, op, 0, "", #[], none⟩
theorem Zqn (H : List Mem) (ρ : Operand → Option PV) (o : Oper) : opA P h E H ρ o = opE P h E H ρ o.op := rfl
noncomputable def Zc9 (P : Program) (h : Hints) (E : Ev) (N : Nat) (ds : List (Option Tmp)) : List Oper → St → Option St
 | [], s => some s
 | ⟨dst, op, ty, pos, after, none⟩ :: l, s => (opE P h E s.hp (ev s.tm) op).bind fun x => ((Zer N dst x.1 s.tm).map fun tm => (⟨tm, x.2⟩ : St)).bind (Zc9 P h E N ds l)
 | ⟨dst, op, ty, pos, after, some (j, w)⟩ :: l, s => (want ds s.tm j w).bind fun b =>
  (bif b then (opE P h E s.hp (ev s.tm) op).bind fun x => ((Zer N dst x.1 s.tm).map fun tm => (⟨tm, x.2⟩ : St)) else (Zer N dst (.tup []) s.tm).map fun tm => ⟨tm, s.hp⟩).bind (Zc9 P h E N ds l)
theorem Zly (N : Nat) (ops : Array Oper) : ∀ (l : List Oper) (s : St), ZdD P h E N ops l s = Zc9 P h E N (ops.toList.map (·.dst)) l s
 | [], s => rfl
 | ⟨dst, op, ty, pos, after, g⟩ :: l, s => by
  show (Zco P h E N ops ⟨dst, op, ty, pos, after, g⟩ s).bind (ZdD P h E N ops l) = _
  rw [show ZdD P h E N ops l = Zc9 P h E N (ops.toList.map (·.dst)) l from funext (Zly N ops l)]
  cases g with
  | none =>
   simp only [Zco, ZcZ, Option.bind_some, cond_true, Zc9, Zqn]
   rw [Option.bind_assoc]
  | some jw =>
   obtain ⟨j, w⟩ := jw
   have hw : ZcZ ops s.tm ⟨dst, op, ty, pos, after, some (j, w)⟩ = want (ops.toList.map (·.dst)) s.tm j w := by
    simp only [ZcZ, want]
    have : (ops[j]?).bind (·.dst) = ((ops.toList.map (·.dst))[j]?).bind id := by
     rw [List.getElem?_map, Array.getElem?_toList]
     cases ops[j]? <;> rfl
    rw [this]
    generalize (((ops.toList.map (·.dst))[j]?).bind id).bind (get s.tm) = x
    cases x with
    | none => rfl
    | some v => cases v <;> first
     | rfl
     | (rename_i vs; cases vs <;> rfl)
   simp only [Zco, hw, Zc9, Zqn]
   rw [Option.bind_assoc]
theorem ZtQ (N : Nat) (ops : Array Oper) (s : St) : Zoc P h E N [] ops s = Zc9 P h E N (ops.toList.map (·.dst)) ops.toList s := Zly N ops _ s
def Sl (q : PV) (es : List (List PV)) : Prop := (q = .nils ∧ es = []) ∨ q = .lst es
theorem Sl.len {q : PV} {es : List (List PV)} (hq : Sl q es) {t e : TypeId} (hu : P.underlying t = some (.slice e)) (H : List Mem) : Zd1 P H t q = some (.int .i64 es.length) := by
 rcases hq with ⟨rfl, rfl⟩ | rfl
 ·simp [Zd1, hu]
 ·simp [Zd1, hu]
theorem Sl.index {q : PV} {es : List (List PV)} (hq : Sl q es) {t e : TypeId} {z : Nat} (hu : P.underlying t = some (.slice e)) (hz : ZaP P e = some z) (H : List Mem) {k : IntKind} {j : Int} {c : List PV} (h0 : 0 ≤ j) (hj : j < es.length) (hc : es[j.toNat]? = some c) (hcz : c.length = z) :
 Zar P H t q (.int k j) = some (.box c 0) := by
 rcases hq with ⟨rfl, rfl⟩ | rfl
 ·simp at hj; omega
 ·simp only [Zar, hu, hz, Option.bind_some]
  rw [if_pos ⟨h0, hj⟩, hc]
  simp [hcz]
end
end Go.Am
