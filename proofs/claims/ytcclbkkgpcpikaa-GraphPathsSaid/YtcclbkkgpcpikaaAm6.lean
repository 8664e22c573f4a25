/-
  Conversions, maps, values that are built, new rows: what the machine lays.
-/
import Derived.Test.YtcclbkkgpcpikaaAm5
set_option linter.unusedSimpArgs false
set_option linter.unusedVariables false
namespace Go.Am
open Go.RowKit

section
variable {P : Program} {w : World} {φ : Phi} {S : Nat → Prop} {B : Nat} {H : List Mem}

theorem elems_sound {x : PV} {es : List (List PV)} {v : Value} (hI : Inv φ H w S B) (h : elems H x = some es) (hx : VRel φ w S x v) :
    ∃ a c, v = .slice a es.length c ∧ es.length ≤ c ∧ (es = [] ∨ ∃ b o z, a = some ⟨b, o, none⟩ ∧ (∀ c ∈ es, c.length = z) ∧ VE φ w S es b o) := by
  unfold elems at h
  split at h
  · cases h; simp only [VRel] at hx; subst hx; exact ⟨none, 0, rfl, Nat.le_refl _, .inl rfl⟩
  · cases h
    simp only [VRel, IRel] at hx
    obtain ⟨a, c, rfl, hle, hx⟩ := hx
    refine ⟨a, c, rfl, hle, ?_⟩
    rcases hx with hx | ⟨b, o, z, ha, _, hw, he⟩
    · exact .inl hx
    · exact .inr ⟨b, o, z, congrArg some ha, hw, EsRel.toV _ _ _ he⟩
  · rename_i id i n room
    split at h
    · rename_i es0 z m hm
      obtain ⟨hle, h⟩ := if_some h
      cases h
      simp only [VRel] at hx
      obtain ⟨l, ad, c, hl, rfl, hnm, hmc, hx⟩ := hx
      have hnc : n ≤ c := Nat.le_trans hnm hmc
      have hlen : ((es0.drop i).take n).length = n := by rw [List.length_take, List.length_drop]; omega
      refine ⟨some ad, c, by rw [hlen], by rw [hlen]; exact hnc, ?_⟩
      have hr := hI.row id l es0 z m hl hm
      rcases hx with ⟨h0, _⟩ | ⟨rfl, _⟩
      · left; exact List.length_eq_zero_iff.1 (by omega)
      · right
        refine ⟨l.b, l.o + i * l.z, z, rfl, fun c hc => hr.wid c (List.mem_of_mem_drop (List.mem_of_mem_take hc)), ?_⟩
        rw [hr.zs]
        exact VE.take n (VE.drop i hr.wid (by omega) hr.cells)
    · cases h
  · cases h

theorem bytesOf_spec : ∀ {es : List (List PV)} {l : List UInt8}, bytesOf es = some l → ∃ ns : List Int, es = ns.map (fun n => [PV.int .u8 n]) ∧ l = ns.map (fun n => UInt8.ofNat n.toNat)
  | [], l, h => by simp [bytesOf] at h; exact ⟨[], rfl, by simp [h]⟩
  | c :: r, l, h => by
    unfold bytesOf at h
    split at h
    · rename_i e; cases e
    · rename_i n r' e
      cases e
      cases hr : bytesOf r with
      | none => simp [hr] at h
      | some l' =>
        simp [hr] at h
        obtain ⟨ns, h1, h2⟩ := bytesOf_spec hr
        exact ⟨n :: ns, by simp [h1], by simp [← h, h2]⟩
    · cases h

theorem VL_ints {k : IntKind} : ∀ (ns : List Int), VL φ w S (ns.map (PV.int k)) (ns.map (Value.int k))
  | [] => by simp only [List.map_nil, VL]
  | n :: ns => by simp only [List.map_cons, VL]; exact ⟨_, _, rfl, VRel_int _ _, VL_ints ns⟩
theorem VL_eq_ints {k : IntKind} : ∀ (ns : List Int) (vs : List Value), VL φ w S (ns.map (PV.int k)) vs → vs = ns.map (Value.int k)
  | [], vs, h => by simpa only [List.map_nil, VL] using h
  | n :: ns, vs, h => by
    simp only [List.map_cons, VL, VRel] at h
    obtain ⟨v, r, rfl, rfl, h⟩ := h
    simp [VL_eq_ints ns r h]
theorem flatten_single {α β : Type} (f : α → β) (l : List α) : (l.map (fun x => [f x])).flatten = l.map f := by induction l <;> simp_all

theorem convPV_sound {s d : TypeId} {x p : PV} {a : Value} (hI : Inv φ H w S B) (h : convPV P H s d x = some p) (hx : VRel φ w S x a) :
    ∃ u w' S', (convert s d a).run P w = .ok u w' ∧ Inv φ H w' S' B ∧ Evo H.length B φ S w φ S' w' ∧ VRel φ w' S' p u := by
  unfold convPV at h
  split at h
  · rename_i x0 k k' n hs hd
    cases h; simp only [VRel] at hx; subst hx
    refine ⟨.int k (k.wrap n), w, S, ?_, hI, Evo.refl _ _ _ _ _, VRel_int _ _⟩
    simp [convert, run_underlying hs, run_underlying hd, Conv.intToInt]
  · rename_i x0 st hs hd
    cases h; simp only [VRel] at hx; subst hx
    refine ⟨.string st, w, S, ?_, hI, Evo.refl _ _ _ _ _, VRel_str _⟩
    cases x0 <;> simp [convert, run_underlying hs, run_underlying hd]
  · rename_i e st hs hd
    simp only [VRel] at hx; subst hx
    split at h
    · rename_i he
      cases h
      have key : (convert s d (.string st)).run P w = .ok (.slice (some ⟨w.heap.size, 0, none⟩) st.size (grownCap w st.size 0 e))
          (w.drew.alloc (.cells (bytesRow st (grownCap w st.size 0 e)) e ((bytesRow st (grownCap w st.size 0 e)).size, (bytesRow st (grownCap w st.size 0 e)).size + 1))) := run_bytes_of_string w s d e st hs hd he
      obtain ⟨h1, h2⟩ := hI.foreign (below_drew_alloc w (.cells (bytesRow st (grownCap w st.size 0 e)) e ((bytesRow st (grownCap w st.size 0 e)).size, (bytesRow st (grownCap w st.size 0 e)).size + 1)))
      refine ⟨_, _, _, key, h1, h2, ?_⟩
      simp only [VRel, IRel]
      have hlen : (byteCells st).length = st.size := by simp [byteCells]
      refine ⟨_, _, by rw [hlen], by rw [hlen]; exact grownCap_ge _ _ _ _, .inr ⟨w.heap.size, 0, 1, rfl, .inr ⟨Nat.le_refl _, by simp⟩, ?_, ?_⟩⟩
      · intro c hc
        simp only [byteCells, List.mem_map] at hc
        obtain ⟨b, _, rfl⟩ := hc; rfl
      · refine VE.toI _ _ _ (VE.of_flat ?_)
        have hf : (byteCells st).flatten = (st.data.toList.map fun b => (b.toNat : Int)).map (PV.int .u8) := by
          simp only [byteCells]
          rw [flatten_single (fun b : UInt8 => PV.int .u8 b.toNat), List.map_map]; rfl
        rw [hf]
        refine VC.of_vals (VL_ints _) (by simp [oneP]) ?_
        intro j v hj
        have hb := heap_drew_alloc_at w (.cells (bytesRow st (grownCap w st.size 0 e)) e ((bytesRow st (grownCap w st.size 0 e)).size, (bytesRow st (grownCap w st.size 0 e)).size + 1))
        simp only [World.cell?, hb]
        simp only [Option.isSome_none, Bool.false_eq_true, if_false, Nat.zero_add]
        rw [bytesRow, Array.getElem?_append_left]
        · simpa using hj
        · have := (List.getElem?_eq_some_iff.1 hj).1
          simpa using this
    · cases h
  · rename_i x _ _ _ e hs hd hne
    split at h
    · rename_i he
      cases hel : elems H x with
      | none => simp [hel] at h
      | some es =>
        simp only [hel, Option.bind_some] at h
        cases hby : bytesOf es with
        | none => simp [hby] at h
        | some l =>
          simp only [hby, Option.map_some, Option.some.injEq] at h
          subst h
          obtain ⟨ad, c, rfl, hle, hc⟩ := elems_sound hI hel hx
          obtain ⟨ns, rfl, rfl⟩ := bytesOf_spec hby
          refine ⟨_, w, S, ?_, hI, Evo.refl _ _ _ _ _, VRel_str _⟩
          rw [run_convert_bytes_string w s d e _ _ _ hs he hd]
          rcases hc with hc | ⟨b, o, z, rfl, hw, hv⟩
          · have : ns = [] := by simpa using hc
            subst this
            cases ad with
            | none => simp [Conv.bytesToString]; rfl
            | some ad =>
              have := run_bytesToString (P := P) w ad 0 c [] (by simp [loadCells, loadCellsFrom])
              simp at this ⊢; exact this
          · have hv2 := VE.flat hv
            rw [flatten_single (fun n : Int => PV.int .u8 n)] at hv2
            obtain ⟨vs, h1, _, h3⟩ := VC.vals hv2
            have := VL_eq_ints _ _ h1
            subst this
            have hl := run_loadCells_list (P := P) w ⟨b, o, none⟩ (ns.map (Value.int .u8)) (fun j v hj => by rw [Addr.add_lit]; exact h3 j v hj)
            rw [List.length_map] at hl ⊢
            rw [run_bytesToString w _ _ _ ns hl, foldl_push_bytes]
            simp
    · cases h
  · cases h

theorem aOpt_sound {tm : List (Nat × PV)} {a : Act} {N : Nat} (ht : TRel φ w S N tm a) {x : Option Operand} {p : Option PV} (h : aOpt (ev tm) x = some p) : ORel φ w S p (x.map a.eval) := by
  cases x with
  | none => simp [aOpt] at h; subst h; simp [ORel]
  | some o =>
    simp only [aOpt] at h
    cases ho : ev tm o with
    | none => simp [ho] at h
    | some q => simp [ho] at h; subst h; exact ⟨_, rfl, ev_sound ht ho⟩

/-! maps -/
theorem strMap_spec {t e : TypeId} (h : strMap P t = some e) : ∃ k, P.underlying t = some (.map k e) ∧ P.underlying k = some .string := by
  unfold strMap at h
  split at h
  · rename_i k e' hu
    split at h
    · rename_i hk; cases h; exact ⟨k, hu, hk⟩
    · cases h
  · cases h
theorem keyOf_spec {p : PV} {key : ByteArray} (h : keyOf p = some key) : p = .str key := by
  unfold keyOf at h; split at h <;> cases h; rfl
theorem mapFind_sound {key : ByteArray} : ∀ {es : List (PV × PV)} {r : Option PV} {ents : List MapEntry} (i : Nat), mapFind key es = some r → VM φ w S es ents →
    ∃ r', Instr.findNow .string (.string key) ents i = some r' ∧ (match r, r' with | none, none => True | some p, some (j, v) => VRel φ w S p v | _, _ => False)
  | [], r, ents, i, h, hv => by
    simp [mapFind] at h; subst h
    simp only [VM] at hv; subst hv
    exact ⟨none, rfl, trivial⟩
  | (k, v) :: es, r, ents, i, h, hv => by
    obtain ⟨e, l', rfl, hk, hv1, hr⟩ := hv
    cases k <;> simp only [mapFind, bytes_list] at h <;> try (cases h; done)
    rename_i st
    simp only [VRel] at hk
    by_cases hb : (key == st) = true
    · rw [if_pos hb] at h
      cases h
      exact ⟨some (i, e.val), by simp only [Instr.findNow, hk, Instr.sameNow, hb], hv1⟩
    · rw [if_neg hb] at h
      obtain ⟨r', h1, h2⟩ := mapFind_sound (i + 1) h hr
      have hb' : (key == st) = false := by simpa using hb
      exact ⟨r', by simp only [Instr.findNow, hk, Instr.sameNow, hb', h1], h2⟩

theorem zeroPV_sound {t : TypeId} {p : PV} (h : zeroPV P t = some p) : ∃ v, (zeroValue t).run P w = .ok v w ∧ VRel φ w S p v := by
  unfold zeroPV at h
  split at h
  · rename_i i hi
    split at h
    · rename_i v hz
      exact ⟨v, by simp [zeroValue, typeInfo, hi, hz], ofVal_sound h⟩
    · cases h
  · cases h
theorem zcells_sound {t : TypeId} {cs : List PV} (h : zcells P t = some cs) : ∃ i v, P.info? t = some i ∧ i.zero = some v ∧ VL φ w S cs v.cells.toList ∧ (∀ c ∈ cs, oneP c = true) := by
  unfold zcells at h
  split at h
  · rename_i i hi
    split at h
    · rename_i v hz
      exact ⟨i, v, hi, hz, (ofScals_sound h).1, (ofScals_sound (φ := φ) (w := w) (S := S) h).2⟩
    · cases h
  · cases h

theorem run_checkKey_str {k : TypeId} {b : Bool} {s : ByteArray} (hk : P.underlying k = some .string) : (Instr.checkKey b 10000 k (.string s)).run P w = .ok () w := by
  show (Instr.checkKey b (9999 + 1) k (.string s)).run P w = _
  rw [Instr.checkKey]
  simp [run_underlying hk]

theorem mapOf_sound {x : PV} {a : Value} {es : List (PV × PV)} (hI : Inv φ H w S B) (h : mapOf H x = some es) (hx : VRel φ w S x a) :
    (a = .map none ∧ es = []) ∨ ∃ id l ents clock, x = .map id ∧ φ id = some l ∧ H[id]? = some (.map es) ∧ a = .map (some l.b) ∧ w.heap[l.b]? = some (.map ents clock) ∧ VM φ w S es ents.toList := by
  unfold mapOf at h
  split at h
  · cases h; simp only [VRel] at hx; exact .inl ⟨hx, rfl⟩
  · rename_i id
    split at h
    · rename_i es' hm
      cases h
      simp only [VRel] at hx
      obtain ⟨l, hl, rfl⟩ := hx
      obtain ⟨_, ents, clock, hb, hv⟩ := hI.map id l _ hl hm
      exact .inr ⟨id, l, ents, clock, rfl, hl, hm, rfl, hb, hv⟩
    · cases h
  · cases h

theorem lookupPV_sound {t : TypeId} {x k p : PV} {a j : Value} {ok : Bool} (hI : Inv φ H w S B) (h : lookupPV P H t x k ok = some p) (hx : VRel φ w S x a) (hj : VRel φ w S k j) :
    ∃ u, (Instr.lookup t a j ok).run P w = .ok u w ∧ VRel φ w S p u := by
  unfold lookupPV at h
  cases hs : strMap P t with
  | none => simp [hs] at h
  | some e =>
    obtain ⟨kt, hu, hk⟩ := strMap_spec hs
    simp only [hs, Option.bind_some] at h
    cases hkey : keyOf k with
    | none => simp [hkey] at h
    | some key =>
      have hkk := keyOf_spec hkey
      subst hkk
      simp only [VRel] at hj; subst hj
      simp only [hkey, Option.bind_some] at h
      cases hm : mapOf H x with
      | none => simp [hm] at h
      | some es =>
      simp only [hm, Option.bind_some] at h
      cases hr : mapFind key es with
      | none => simp [hr] at h
      | some r =>
        simp only [hr, Option.bind_some] at h
        cases hz : zeroPV P e with
        | none => simp [hz] at h
        | some zero =>
          simp only [hz, Option.bind_some, Option.some.injEq] at h
          subst h
          obtain ⟨zv, hzr, hzv⟩ := zeroPV_sound (P := P) (w := w) (φ := φ) (S := S) hz
          have miss : ∀ (ents : List MapEntry), Instr.findNow .string (.string key) ents 0 = some none → (Instr.findKey kt (.string key) ents).run P w = .ok none w := by
            intro ents hf; simp [Instr.findKey, run_underlying hk, hf]
          have found : ∀ (ents : List MapEntry) jv, Instr.findNow .string (.string key) ents 0 = some (some jv) → (Instr.findKey kt (.string key) ents).run P w = .ok (some jv) w := by
            intro ents jv hf; simp [Instr.findKey, run_underlying hk, hf]
          have hzero : VRel φ w S (if ok = true then PV.tup [zero, PV.bool false] else zero) (if ok then .tuple #[zv, .bool false] else zv) := by
            cases ok
            · simpa using hzv
            · simp only [if_true, VRel]; exact ⟨_, rfl, _, _, rfl, hzv, _, _, rfl, VRel_bool _, by simp only [VL]⟩
          rcases mapOf_sound hI hm hx with ⟨rfl, rfl⟩ | ⟨id, l, ents, clock, rfl, hl, hm', rfl, hb, hv⟩
          · simp [mapFind] at hr; subst hr
            exact ⟨_, by simp [Instr.lookup, run_underlying hu, run_checkKey_str hk, miss [] rfl, hzr] <;> rfl, hzero⟩
          · obtain ⟨r', h1, h2⟩ := mapFind_sound 0 hr hv
            cases r with
            | none =>
              cases r' with
              | some _ => exact h2.elim
              | none => exact ⟨_, by simp [Instr.lookup, run_underlying hu, getObj, Sem.run, hb, run_checkKey_str hk, miss _ h1, hzr] <;> rfl, hzero⟩
            | some q =>
              cases r' with
              | none => exact h2.elim
              | some jv =>
                obtain ⟨j, v⟩ := jv
                refine ⟨if ok then .tuple #[v, .bool true] else v, by simp [Instr.lookup, run_underlying hu, getObj, Sem.run, hb, run_checkKey_str hk, found _ _ h1], ?_⟩
                cases ok
                · simpa using h2
                · simp only [if_true, VRel]; exact ⟨_, rfl, _, _, rfl, h2, _, _, rfl, VRel_bool _, by simp only [VL]⟩

end
end Go.Am
