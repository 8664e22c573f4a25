/-
  The evaluator of the model's code on plain values, with its soundness and its walking rules (part 3).
-/
import Derived.Test.YtcclbkkgpcpikaaAmB
/-
  Rules for calls, for what is built, for strings and maps.
-/
set_option linter.unusedSimpArgs false
set_option linter.unusedVariables false
namespace Go.Am

section
variable {P : Program} {h : Hints} {E : Ev} {H : List Mem} {ρ : Operand → Option PV}

/-! conversions and strings -/
noncomputable def cvInt (P : Program) (s d : TypeId) : Option IntKind := match P.underlying s, P.underlying d with
  | some _, some (.int k) => some k
  | _, _ => none
noncomputable def cvStr (P : Program) (s d : TypeId) : Nat := match P.underlying s, P.underlying d with
  | some _, some .string => 1
  | some .string, some (.slice e) => match P.underlying e with
    | some (.int .u8) => 2
    | _ => 0
  | _, _ => 0
theorem cv_int (s d : TypeId) (k : IntKind) (n : Int) : convPV P H s d (.int k n) = (cvInt P s d).map fun k => .int k (k.wrap n) := by
  unfold convPV cvInt
  cases P.underlying s with
  | none => cases P.underlying d <;> rfl
  | some x =>
    cases P.underlying d with
    | none => cases x <;> rfl
    | some y =>
      cases y with
      | string =>
        cases x with
        | slice e =>
          simp only [Option.map_none]
          cases P.underlying e with
          | none => rfl
          | some z => cases z <;> first
            | rfl
            | (rename_i k; cases k <;> rfl)
        | _ => rfl
      | slice e => cases x <;> rfl
      | _ => cases x <;> rfl
/-- A string as another. -/
noncomputable def cvS (s : ByteArray) : Nat → Option PV
  | 1 => some (.str s)
  | 2 => some (.lst (byteCells s))
  | _ => none
theorem cv_str (s d : TypeId) (x : ByteArray) : convPV P H s d (.str x) = cvS x (cvStr P s d) := by
  unfold convPV cvStr
  cases P.underlying s with
  | none => cases P.underlying d <;> rfl
  | some t =>
    cases P.underlying d with
    | none => cases t <;> rfl
    | some y =>
      cases y with
      | string => rfl
      | slice e =>
        cases t with
        | string =>
          simp only []
          cases P.underlying e with
          | none => rfl
          | some z => cases z <;> first
            | rfl
            | (rename_i k; cases k <;> rfl)
        | _ => rfl
      | _ => cases t <;> rfl
theorem cvS_1 (s : ByteArray) : cvS s 1 = some (.str s) := rfl
theorem cvS_2 (s : ByteArray) : cvS s 2 = some (.lst (byteCells s)) := rfl
noncomputable def strAt (s : ByteArray) (j : Int) : Option PV := if 0 ≤ j then (s.data.toList[j.toNat]?).map fun b => .int .u8 b.toNat else none
theorem idx_str (t : TypeId) (s : ByteArray) (k : IntKind) (j : Int) : indexPV P t (.str s) (.int k j) = if isStrT P t = true then strAt s j else none := by
  unfold indexPV isStrT strAt
  cases P.underlying t with
  | none => rfl
  | some d => cases d <;> rfl
theorem idx_agg (t : TypeId) (cs : List PV) (k : IntKind) (j : Int) : indexPV P t (.agg cs) (.int k j) = (arrOf P t).bind fun x => if 0 ≤ j ∧ j < x.1 then partOf P x.2.2 cs (j.toNat * x.2.1) else none := by
  unfold indexPV arrOf
  cases P.underlying t with
  | none => rfl
  | some d =>
    cases d with
    | array n e => simp only []; cases tsize P e <;> rfl
    | _ => rfl
theorem func_eq (f : FuncId) (a c : Array Operand) : aFunc ρ (.func f) a c = (omap ρ a.toList).bind fun a => (omap ρ c.toList).map fun c => .func f a c := rfl
/-! what is built -/
noncomputable def placeS (P : Program) (t : TypeId) (i : Nat) : Option (Nat × Nat) := (fieldAt P t i).bind fun x => (tsize P x.2).map fun n => (x.1, n)
noncomputable def structOk (P : Program) (t : TypeId) : Bool := match P.underlying t with
  | some (.struct fs) => (omap (fun f => tsize P f.type) fs.toList).isSome
  | _ => false
theorem build_struct {t : TypeId} (hs : structOk P t = true) (ps : List (Nat × PV)) : buildPV P t ps = (zcells P t).bind fun zero => (fillAgg (placeS P t) zero ps).map .agg := by
  unfold structOk at hs
  split at hs
  · rename_i fs hu
    unfold buildPV
    cases hz : zcells P t with
    | none => rfl
    | some zero =>
      simp only [Option.bind_some, hu]
      have hpl : (fun i => (fs[i]?).bind fun f => (tsize P f.type).map fun n => (f.offset, n)) = placeS P t := by
        funext i
        simp only [placeS, fieldAt, hu]
        cases fs[i]? <;> rfl
      rw [hpl]
      cases hf : fillAgg (placeS P t) zero ps with
      | none => rfl
      | some cs =>
        simp only [Option.bind_some, Option.map_some]
        cases ho : omap (fun f => tsize P f.type) fs.toList with
        | none => rw [ho] at hs; cases hs
        | some _ => rfl
  · cases hs
theorem build_array {t e : TypeId} {n z : Nat} (ha : arrOf P t = some (n, z, e)) (ps : List (Nat × PV)) : buildPV P t ps = (zcells P t).bind fun zero => (fillAgg (fun i => some (i * z, z)) zero ps).map .agg := by
  obtain ⟨hu, h2⟩ := arrOf_spec ha
  unfold buildPV
  cases zcells P t with
  | none => rfl
  | some zero => simp only [Option.bind_some, hu, h2]
theorem aBuild_eq (t : TypeId) (ps : Array (Nat × Operand)) : aBuild P ρ t ps = (partsOf ρ ps).bind fun q => buildPV P t q := rfl
theorem aBuildSlice_eq (base : Nat) (t : TypeId) (n : Nat) (ps : Array (Nat × Operand)) : aBuildSlice P base ρ t n ps = (partsOf ρ ps).bind fun q => (buildSliceM P t n q).map fun m => (.ref base 0 n n, [m], []) := rfl
/-- The parts of what is built. -/
noncomputable def partsL (ρ : Operand → Option PV) : List (Nat × Operand) → Option (List (Nat × PV))
  | [] => some []
  | x :: r => ((ρ x.2).bind noTup).bind fun v => (partsL ρ r).bind fun l => some ((x.1, v) :: l)
theorem parts_eq (ps : Array (Nat × Operand)) : partsOf ρ ps = partsL ρ ps.toList := by
  unfold partsOf
  induction ps.toList with
  | nil => rfl
  | cons x r ih =>
    rw [omap_cons', ih]
    simp only [partsL]
    cases (ρ x.2).bind noTup with
    | none => rfl
    | some v => simp only [Option.map_some, Option.bind_some]
theorem partsL_nil : partsL ρ [] = some [] := rfl
theorem partsL_cons (i : Nat) (x : Operand) (r : List (Nat × Operand)) : partsL ρ ((i, x) :: r) = ((ρ x).bind noTup).bind fun v => (partsL ρ r).bind fun l => some ((i, v) :: l) := rfl

/-! calls -/
/-- A call, by what the hints say of the function. -/
noncomputable def callD (h : Hints) (E : Ev) (f : FuncId) (args : List PV) (H : List Mem) : Bool → Bool → Bool → ResW
  | true, _, _ => E.rn f args H
  | false, true, _ => (omap (exp expFuel H) args).bind fun qs => (impCall E f qs H.length).map fun r => (r.1, freeze (bif r.2.2 then [] else args.flatMap (rch expFuel H)) H ++ r.2.1)
  | false, false, true => (omap (exp expFuel H) args).bind fun qs => (pureCall h E f qs).map fun q => (q, freeze (args.flatMap (rch expFuel H)) H)
  | false, false, false => (omap (exp expFuel H) args).bind fun qs => (pureCall h E f qs).bind fun q => if noMem q = true then some (q, H) else none
theorem call_eq (f : FuncId) (args : List PV) : callAny h E f args H = callD h E f args H (h.opn f) (h.imp f) (h.mem f) := by
  unfold callAny callC pureC impC
  cases h.opn f with
  | true => rfl
  | false =>
    simp only [Bool.false_eq_true, if_false]
    cases hi : h.imp f with
    | true =>
      simp only [cond_true, callD]
      generalize omap (exp expFuel H) args = x
      cases x with
      | none => rfl
      | some qs =>
        simp only [Option.bind_some]
        cases impCall E f qs H.length <;> rfl
    | false =>
      simp only [cond_false]
      cases hm : h.mem f with
      | true =>
        simp only [callD, if_true]
        generalize omap (exp expFuel H) args = x
        cases x with
        | none => rfl
        | some qs =>
          simp only [Option.bind_some]
          cases pureCall h E f qs with
          | none => rfl
          | some q => simp only [Option.bind_some, Option.map_some, List.append_nil]
      | false =>
        simp only [callD, Bool.false_eq_true, if_false]
        generalize omap (exp expFuel H) args = x
        cases x with
        | none => rfl
        | some qs =>
          simp only [Option.bind_some]
          cases pureCall h E f qs with
          | none => rfl
          | some q =>
            simp only [Option.bind_some]
            split <;> simp [freeze]
theorem callD_opn (f : FuncId) (args : List PV) (a b : Bool) : callD h E f args H true a b = E.rn f args H := rfl
theorem callD_imp (f : FuncId) (args : List PV) (b : Bool) : callD h E f args H false true b = (omap (exp expFuel H) args).bind fun qs => (impCall E f qs H.length).map fun r => (r.1, freeze (bif r.2.2 then [] else args.flatMap (rch expFuel H)) H ++ r.2.1) := rfl
theorem callD_mem (f : FuncId) (args : List PV) : callD h E f args H false false true = (omap (exp expFuel H) args).bind fun qs => (pureCall h E f qs).map fun q => (q, freeze (args.flatMap (rch expFuel H)) H) := rfl
theorem callD_pure (f : FuncId) (args : List PV) : callD h E f args H false false false = (omap (exp expFuel H) args).bind fun qs => (pureCall h E f qs).bind fun q => if noMem q = true then some (q, H) else none := rfl
/-- What a call gives. -/
theorem pure_of {f : FuncId} {qs : List PV} {q : PV} (hp : h.prim f = none) (hr : Holds ((lim P h).rn f qs []) fun r => exp expFuel r.2 r.1 = some q) : pureCall h (lim P h) f qs = some q := by
  obtain ⟨r, h1, h2⟩ := hr
  simp only [pureCall, hp, h1, Option.bind_some]
  exact h2
theorem exp_int (k : IntKind) (n : Int) : exp expFuel H (.int k n) = some (.int k n) := rfl
theorem exp_bool (b : Bool) : exp expFuel H (.bool b) = some (.bool b) := rfl
theorem exp_str (s : ByteArray) : exp expFuel H (.str s) = some (.str s) := rfl
theorem exp_nils : exp expFuel H .nils = some .nils := rfl
theorem exp_nilp : exp expFuel H .nilp = some .nilp := rfl
theorem exp_nilf : exp expFuel H .nilf = some .nilf := rfl
theorem exp_lst (es : List (List PV)) : exp expFuel H (.lst es) = some (.lst es) := rfl
theorem exp_box (c : List PV) (r : Nat) : exp expFuel H (.box c r) = some (.box c r) := rfl
/-- A value that is its own content. -/
def Plain (v : PV) : Prop := ∀ n H, exp (n + 1) H v = some v
theorem plain_int (k : IntKind) (n : Int) : Plain (.int k n) := fun _ _ => rfl
theorem plain_bool (b : Bool) : Plain (.bool b) := fun _ _ => rfl
theorem plain_str (s : ByteArray) : Plain (.str s) := fun _ _ => rfl
theorem plain_nils : Plain .nils := fun _ _ => rfl
theorem plain_lst (es : List (List PV)) : Plain (.lst es) := fun _ _ => rfl
theorem Sl.plain {q : PV} {es : List (List PV)} (hq : Sl q es) : Plain q := by
  rcases hq with ⟨rfl, _⟩ | rfl
  · exact plain_nils
  · exact plain_lst _
theorem Plain.exp {v : PV} (hv : Plain v) : exp expFuel H v = some v := hv 39 H
theorem plains {n : Nat} : ∀ {cs : List PV}, (∀ c ∈ cs, Plain c) → omap (exp (n + 1) H) cs = some cs
  | [], _ => rfl
  | c :: cs, hc => by rw [omap_cons', hc c List.mem_cons_self n H, plains fun x hx => hc x (List.mem_cons_of_mem _ hx)]; rfl
theorem plainss {n : Nat} : ∀ {es : List (List PV)}, (∀ c ∈ es, ∀ x ∈ c, Plain x) → omap (omap (exp (n + 1) H)) es = some es
  | [], _ => rfl
  | c :: cs, hc => by rw [omap_cons', plains (hc c List.mem_cons_self), plainss fun x hx => hc x (List.mem_cons_of_mem _ hx)]; rfl
theorem exp_agg {cs : List PV} (hc : ∀ c ∈ cs, Plain c) : exp expFuel H (.agg cs) = some (.agg cs) := by
  show (omap (exp 39 H) cs).map PV.agg = _
  rw [plains hc]; rfl
theorem exp_tup (cs : List PV) : exp expFuel H (.tup cs) = (omap (exp 39 H) cs).map .tup := rfl
/-- The content of a row. -/
noncomputable def rowC (n : Nat) (H : List Mem) (i l : Nat) : Option Mem → Option PV
  | some (.row es _ _) => if i + l ≤ es.length then (omap (omap (exp n H)) ((es.drop i).take l)).map .lst else none
  | _ => none
theorem exp_ref (n id i l m : Nat) : exp (n + 1) H (.ref id i l m) = rowC n H i l H[id]? := by
  show (match H[id]? with | some (.row es _ _) => if i + l ≤ es.length then (omap (omap (exp n H)) ((es.drop i).take l)).map PV.lst else none | _ => none) = _
  generalize H[id]? = x
  cases x with
  | none => rfl
  | some m => cases m <;> rfl
theorem exp_row {id l m z : Nat} {es : List (List PV)} {b : Bool} (hH : H[id]? = some (.row es z b)) (hl : es.length = l) (hp : ∀ c ∈ es, ∀ x ∈ c, Plain x) : exp expFuel H (.ref id 0 l m) = some (.lst es) := by
  show exp (39 + 1) H _ = _
  rw [exp_ref, hH]
  simp only [rowC, Nat.zero_add]
  rw [if_pos (by omega), List.drop_zero, List.take_of_length_le (by omega), plainss hp]
  rfl
theorem noMem_int (k : IntKind) (n : Int) : noMem (.int k n) = true := rfl
theorem noMem_bool (b : Bool) : noMem (.bool b) = true := rfl
theorem noMem_str (s : ByteArray) : noMem (.str s) = true := rfl
theorem rch_int (k : IntKind) (n : Int) : rch expFuel H (.int k n) = [] := rfl
theorem rch_bool (b : Bool) : rch expFuel H (.bool b) = [] := rfl
theorem rch_str (s : ByteArray) : rch expFuel H (.str s) = [] := rfl
theorem rch_nils : rch expFuel H .nils = [] := rfl
theorem rch_lst (es : List (List PV)) : rch expFuel H (.lst es) = [] := rfl
theorem rch_box (c : List PV) (r : Nat) : rch expFuel H (.box c r) = [] := rfl
theorem Sl.rch {q : PV} {es : List (List PV)} (hq : Sl q es) : rch expFuel H q = [] := by
  rcases hq with ⟨rfl, _⟩ | rfl <;> rfl
theorem fm_nil {α β : Type} (f : α → List β) : List.flatMap f [] = [] := rfl
theorem fm_cons {α β : Type} (f : α → List β) (a : α) (l : List α) : List.flatMap f (a :: l) = f a ++ l.flatMap f := List.flatMap_cons

/-! maps with strings as keys -/
theorem wMap_some (t : TypeId) (id : Nat) (key : ByteArray) (v : PV) : wMap P H t (some (.map id)) (some (.str key)) (some v) = (strMap P t).bind fun _ => match H[id]? with
    | some (.map es) => (mapPut key v es).map fun es' => (.tup [], H.set id (.map es'))
    | _ => none := by
  unfold wMap
  cases strMap P t <;> rfl
theorem lookup_map (t : TypeId) (id : Nat) (key : ByteArray) (ok : Bool) : lookupPV P H t (.map id) (.str key) ok = (strMap P t).bind fun e => (mapOf H (.map id)).bind fun es => (mapFind key es).bind fun r => (zeroPV P e).bind fun zero =>
    some (if ok then .tup [r.getD zero, .bool r.isSome] else r.getD zero) := rfl
theorem makeMap_eq (base : Nat) (t : TypeId) : aMakeMap P base t none = (strMap P t).map fun _ => (.map base, [Mem.map []], []) := rfl
end
end Go.Am

/-
  Rules for own memory numbered anew.
-/
set_option linter.unusedSimpArgs false
set_option linter.unusedVariables false
namespace Go.Am

section
variable {P : Program} {h : Hints} {E : Ev} {H : List Mem}

/-- Own memory numbered anew, the numbers kept given. -/
noncomputable def compactK (tm : List (Nat × PV)) (H : List Mem) (ids : List Nat) : Option St :=
  if tm.all (fun x => okIds x.2) = true then
    (omap (fun i => (H[i]?).bind fun m => if (okM m && (idsM m).all ids.contains) = true then some (renM ids m) else none) ids).map fun H' => ⟨tm.map fun x => (x.1, ren ids x.2), H'⟩
  else none
noncomputable def idsT (tm : List (Nat × PV)) : List Nat := (tm.flatMap fun x => idsOf x.2).foldl addNew []
noncomputable def closeStep (H : List Mem) (ids : List Nat) : List Nat := (ids.flatMap (idsAt H)).foldl addNew ids
theorem compact_run (tm : List (Nat × PV)) : compact tm H = compactK tm H (closeStep H (closeStep H (closeStep H (idsT tm)))) := rfl
noncomputable def idsO : Option Mem → List Nat
  | some m => idsM m
  | none => []
theorem idsAt_eq (i : Nat) : idsAt H i = idsO H[i]? := by
  unfold idsAt idsO
  cases H[i]? <;> rfl
theorem idsO_some (m : Mem) : idsO (some m) = idsM m := rfl
theorem idsM_flat {m : Mem} (hm : flatM m = true) : idsM m = [] := by simp [idsM, hm]
theorem okM_flat {m : Mem} (hm : flatM m = true) : okM m = true := by simp [okM, hm]
theorem renM_flat {m : Mem} (hm : flatM m = true) (l : List Nat) : renM l m = m := by simp [renM, hm]
theorem idsM_row {es : List (List PV)} {z : Nat} {m : Bool} (hm : flatM (.row es z m) = false) : idsM (.row es z m) = es.flatMap fun c => c.flatMap idsOf := by simp [idsM, hm]
theorem okM_row {es : List (List PV)} {z : Nat} {m : Bool} (hm : flatM (.row es z m) = false) : okM (.row es z m) = es.all fun c => c.all okIds := by simp [okM, hm]
theorem renM_rows {es : List (List PV)} {z : Nat} {m : Bool} (hm : flatM (.row es z m) = false) (l : List Nat) : renM l (.row es z m) = .row (es.map fun c => c.map (ren l)) z m := by simp [renM, hm]
theorem flatM_row (es : List (List PV)) (z : Nat) (m : Bool) : flatM (.row es z m) = es.all fun c => c.all noIds := rfl
theorem flatM_map (es : List (PV × PV)) : flatM (.map es) = es.all fun x => noIds x.1 && noIds x.2 := rfl
theorem flat_rows {es : List (List PV)} (he : ∀ c ∈ es, ∀ v ∈ c, noIds v = true) (z : Nat) (m : Bool) : flatM (.row es z m) = true := by
  rw [flatM_row, List.all_eq_true]
  exact fun c hc => List.all_eq_true.2 (he c hc)
theorem addNew_eq (l : List Nat) (i : Nat) : addNew l i = if i ∈ l then l else l ++ [i] := by
  unfold addNew
  by_cases hi : i ∈ l
  · rw [if_pos hi, if_pos (by simpa using hi)]
  · rw [if_neg hi, if_neg (by simpa using hi)]
theorem pos_cons (i j : Nat) (r : List Nat) : pos i (j :: r) = if i = j then 0 else pos i r + 1 := by
  show (bif Nat.beq i j then 0 else pos i r + 1) = _
  by_cases hij : i = j
  · subst hij; simp
  · have : Nat.beq i j = false := by
      cases hb : Nat.beq i j with
      | true => exact absurd (Nat.eq_of_beq_eq_true hb) hij
      | false => rfl
    rw [this, if_neg hij]; rfl
theorem ids_ref (id i n m : Nat) : idsOf (.ref id i n m) = [id] := rfl
theorem ids_ptr (id i r : Nat) : idsOf (.ptr id i r) = [id] := rfl
theorem ids_map (id : Nat) : idsOf (.map id) = [id] := rfl
theorem ids_int (k : IntKind) (n : Int) : idsOf (.int k n) = [] := rfl
theorem ids_bool (b : Bool) : idsOf (.bool b) = [] := rfl
theorem ids_str (s : ByteArray) : idsOf (.str s) = [] := rfl
theorem ids_nils : idsOf .nils = [] := rfl
theorem ids_nilp : idsOf .nilp = [] := rfl
theorem ids_nilf : idsOf .nilf = [] := rfl
theorem ids_lst (es : List (List PV)) : idsOf (.lst es) = [] := rfl
theorem ids_box (c : List PV) (r : Nat) : idsOf (.box c r) = [] := rfl
theorem ids_agg (cs : List PV) : idsOf (.agg cs) = cs.flatMap idsOf1 := rfl
theorem ids_func (f : FuncId) (a c : List PV) : idsOf (.func f a c) = a.flatMap idsOf1 ++ c.flatMap idsOf1 := rfl
theorem ids1_ref (id i n m : Nat) : idsOf1 (.ref id i n m) = [id] := rfl
theorem ids1_ptr (id i r : Nat) : idsOf1 (.ptr id i r) = [id] := rfl
theorem ids1_map (id : Nat) : idsOf1 (.map id) = [id] := rfl
theorem ids1_int (k : IntKind) (n : Int) : idsOf1 (.int k n) = [] := rfl
theorem ids1_bool (b : Bool) : idsOf1 (.bool b) = [] := rfl
theorem ids1_str (s : ByteArray) : idsOf1 (.str s) = [] := rfl
theorem ids1_nils : idsOf1 .nils = [] := rfl
theorem ids1_lst (es : List (List PV)) : idsOf1 (.lst es) = [] := rfl
theorem ids1_box (c : List PV) (r : Nat) : idsOf1 (.box c r) = [] := rfl
theorem ok_ref (id i n m : Nat) : okIds (.ref id i n m) = true := rfl
theorem ok_ptr (id i r : Nat) : okIds (.ptr id i r) = true := rfl
theorem ok_map (id : Nat) : okIds (.map id) = true := rfl
theorem ok_int (k : IntKind) (n : Int) : okIds (.int k n) = true := rfl
theorem ok_bool (b : Bool) : okIds (.bool b) = true := rfl
theorem ok_str (s : ByteArray) : okIds (.str s) = true := rfl
theorem ok_nils : okIds .nils = true := rfl
theorem ok_nilp : okIds .nilp = true := rfl
theorem ok_nilf : okIds .nilf = true := rfl
theorem ok_lst (es : List (List PV)) : okIds (.lst es) = true := rfl
theorem ok_box (c : List PV) (r : Nat) : okIds (.box c r) = true := rfl
theorem ok_agg (cs : List PV) : okIds (.agg cs) = cs.all okIds1 := rfl
theorem ok_func (f : FuncId) (a c : List PV) : okIds (.func f a c) = (a.all okIds1 && c.all okIds1) := rfl
theorem ok1_ref (id i n m : Nat) : okIds1 (.ref id i n m) = true := rfl
theorem ok1_ptr (id i r : Nat) : okIds1 (.ptr id i r) = true := rfl
theorem ok1_map (id : Nat) : okIds1 (.map id) = true := rfl
theorem ok1_int (k : IntKind) (n : Int) : okIds1 (.int k n) = true := rfl
theorem ok1_bool (b : Bool) : okIds1 (.bool b) = true := rfl
theorem ok1_str (s : ByteArray) : okIds1 (.str s) = true := rfl
theorem ok1_nils : okIds1 .nils = true := rfl
theorem ok1_lst (es : List (List PV)) : okIds1 (.lst es) = true := rfl
theorem ok1_box (c : List PV) (r : Nat) : okIds1 (.box c r) = true := rfl
theorem no_ref (id i n m : Nat) : noIds (.ref id i n m) = false := rfl
theorem no_ptr (id i r : Nat) : noIds (.ptr id i r) = false := rfl
theorem no_map (id : Nat) : noIds (.map id) = false := rfl
theorem no_int (k : IntKind) (n : Int) : noIds (.int k n) = true := rfl
theorem no_bool (b : Bool) : noIds (.bool b) = true := rfl
theorem no_str (s : ByteArray) : noIds (.str s) = true := rfl
theorem no_nils : noIds .nils = true := rfl
theorem no_nilp : noIds .nilp = true := rfl
theorem no_lst (es : List (List PV)) : noIds (.lst es) = true := rfl
theorem no_box (c : List PV) (r : Nat) : noIds (.box c r) = true := rfl
theorem ren_ref (l : List Nat) (id i n m : Nat) : ren l (.ref id i n m) = .ref (pos id l) i n m := rfl
theorem ren_ptr (l : List Nat) (id i r : Nat) : ren l (.ptr id i r) = .ptr (pos id l) i r := rfl
theorem ren_map (l : List Nat) (id : Nat) : ren l (.map id) = .map (pos id l) := rfl
theorem ren_int (l : List Nat) (k : IntKind) (n : Int) : ren l (.int k n) = .int k n := rfl
theorem ren_bool (l : List Nat) (b : Bool) : ren l (.bool b) = .bool b := rfl
theorem ren_str (l : List Nat) (s : ByteArray) : ren l (.str s) = .str s := rfl
theorem ren_nils (l : List Nat) : ren l .nils = .nils := rfl
theorem ren_nilp (l : List Nat) : ren l .nilp = .nilp := rfl
theorem ren_nilf (l : List Nat) : ren l .nilf = .nilf := rfl
theorem ren_lst (l : List Nat) (es : List (List PV)) : ren l (.lst es) = .lst es := rfl
theorem ren_box (l : List Nat) (c : List PV) (r : Nat) : ren l (.box c r) = .box c r := rfl
theorem ren_agg (l : List Nat) (cs : List PV) : ren l (.agg cs) = .agg (cs.map (ren1 l)) := rfl
theorem ren_func (l : List Nat) (f : FuncId) (a c : List PV) : ren l (.func f a c) = .func f (a.map (ren1 l)) (c.map (ren1 l)) := rfl
theorem ren1_ref (l : List Nat) (id i n m : Nat) : ren1 l (.ref id i n m) = .ref (pos id l) i n m := rfl
theorem ren1_ptr (l : List Nat) (id i r : Nat) : ren1 l (.ptr id i r) = .ptr (pos id l) i r := rfl
theorem ren1_map (l : List Nat) (id : Nat) : ren1 l (.map id) = .map (pos id l) := rfl
theorem ren1_int (l : List Nat) (k : IntKind) (n : Int) : ren1 l (.int k n) = .int k n := rfl
theorem ren1_bool (l : List Nat) (b : Bool) : ren1 l (.bool b) = .bool b := rfl
theorem ren1_str (l : List Nat) (s : ByteArray) : ren1 l (.str s) = .str s := rfl
theorem ren1_nils (l : List Nat) : ren1 l .nils = .nils := rfl
theorem ren1_lst (l : List Nat) (es : List (List PV)) : ren1 l (.lst es) = .lst es := rfl
theorem ren1_box (l : List Nat) (c : List PV) (r : Nat) : ren1 l (.box c r) = .box c r := rfl
/-- What a slice that came in is to numbers. -/
theorem Sl.ids {q : PV} {es : List (List PV)} (hq : Sl q es) : idsOf q = [] ∧ okIds q = true ∧ (∀ l, ren l q = q) ∧ idsOf1 q = [] ∧ okIds1 q = true ∧ (∀ l, ren1 l q = q) ∧ noIds q = true := by
  rcases hq with ⟨rfl, _⟩ | rfl <;> exact ⟨rfl, rfl, fun _ => rfl, rfl, rfl, fun _ => rfl, rfl⟩
theorem Flat.ids {v : PV} (hv : Flat v) : idsOf v = [] ∧ okIds v = true ∧ ∀ l, ren l v = v := hv
end
end Go.Am

/-
  All walking rules under one name (written by a program).
-/
set_option linter.unusedSimpArgs false
set_option linter.unusedVariables false
namespace Go.Am
theorem walkW : type_of% (And.intro (And.intro (And.intro (And.intro (And.intro (And.intro (And.intro @run_nil (And.intro @run_op @run_guard)) (And.intro (And.intro @runK_put @runK_no) (And.intro @runG_true @runG_false))) (And.intro (And.intro (And.intro @regOut_some @want_eq) (And.intro @wantV_bool @wantV_tup)) (And.intro (And.intro @beq_t @beq_f) (And.intro @ev_tmp @ev_const)))) (And.intro (And.intro (And.intro @ev_func (And.intro @ofVal_bool @ofVal_int)) (And.intro (And.intro @ofVal_str @ofVal_nilp) (And.intro @ofVal_nils @ofVal_nilf))) (And.intro (And.intro (And.intro @ofVal_nilm @ofVal_agg) (And.intro @ofScal_bool @ofScal_int)) (And.intro (And.intro @ofScal_str @ofScal_nilp) (And.intro @ofScal_nils @out0_some))))) (And.intro (And.intro (And.intro (And.intro @outR_some (And.intro @freeze_nil @e_move)) (And.intro (And.intro @e_assign @e_pick) (And.intro @e_alloc @e_box))) (And.intro (And.intro (And.intro @e_build @e_buildSlice) (And.intro @e_load @e_nilCheck)) (And.intro (And.intro @e_bin @e_un) (And.intro @e_conv @e_func)))) (And.intro (And.intro (And.intro (And.intro @e_makeMap @e_makeSlice) (And.intro @e_slice @e_fieldAddr)) (And.intro (And.intro @e_field @e_indexAddr) (And.intro @e_index @e_lookup))) (And.intro (And.intro (And.intro @e_extract @e_store) (And.intro @e_mapUpdate @e_insert)) (And.intro (And.intro @e_len @e_min) (And.intro @e_max @e_append)))))) (And.intro (And.intro (And.intro (And.intro (And.intro @e_copy (And.intro @e_clear @e_call)) (And.intro (And.intro @e_dyn @len_one) (And.intro @bin_some @un_some))) (And.intro (And.intro (And.intro @conv_some @load_some) (And.intro @nilCheck_ptr @nilCheck_box)) (And.intro (And.intro @nilCheck_func @fieldAddr_some) (And.intro @field_some @indexAddr_some)))) (And.intro (And.intro (And.intro (And.intro @index_some @lookup_some) (And.intro @extract_some @pick_V)) (And.intro (And.intro @pickV_true @pickV_false) (And.intro @store_some @noTup_int))) (And.intro (And.intro (And.intro @noTup_bool @noTup_str) (And.intro @noTup_agg @noTup_lst)) (And.intro (And.intro @noTup_ref @noTup_ptr) (And.intro @noTup_nils @noTup_nilp))))) (And.intro (And.intro (And.intro (And.intro @noTup_map (And.intro @noTup_func @cells_int)) (And.intro (And.intro @cells_bool @cells_str) (And.intro @cells_agg @cells_lst))) (And.intro (And.intro (And.intro @cells_ref @cells_nils) (And.intro @cells_map @cells_func)) (And.intro (And.intro @bin_int @i_add) (And.intro @i_sub @i_mul)))) (And.intro (And.intro (And.intro (And.intro @i_quo @i_rem) (And.intro @i_eql @i_neq)) (And.intro (And.intro @i_lss @i_leq) (And.intro @i_gtr @i_geq))) (And.intro (And.intro (And.intro @bin_str @s_eql) (And.intro @s_neq @bin_bool)) (And.intro (And.intro @eq_eql @eq_neq) (And.intro @un_neg @un_not))))))) (And.intro (And.intro (And.intro (And.intro (And.intro (And.intro @load_box (And.intro @idx_ptr @idx_box)) (And.intro (And.intro @idx_ref @idx_lst) (And.intro @rowPtr_row @rowCell_row))) (And.intro (And.intro (And.intro @rowSet_row @load_p) (And.intro @store_p @fa_ptr)) (And.intro (And.intro @fa_box @fld_agg) (And.intro @part_eq @alloc_eq)))) (And.intro (And.intro (And.intro @box_some (And.intro @x_skip @x_label)) (And.intro (And.intro @x_seq @x_exit) (And.intro @x_ret @x_loop))) (And.intro (And.intro (And.intro @x_condK @condK_true) (And.intro @condK_false @x_block)) (And.intro (And.intro @x_region @seqOut_normal) (And.intro @seqOut_exit @seqOut_ret))))) (And.intro (And.intro (And.intro (And.intro @blockOut_normal (And.intro @blockOut_exit @blockOut_ret)) (And.intro (And.intro @finS_ret @finS_normal) (And.intro @res_tmp @res_cell))) (And.intro (And.intro (And.intro @one_one @one_two) (And.intro @enter_nil @enter_cons)) (And.intro (And.intro @mask_none @mask_keep) (And.intro @mask_compact @keep_nil)))) (And.intro (And.intro (And.intro (And.intro @keep_cons @keepOne_some) (And.intro @keepOne_none @compact_flat)) (And.intro (And.intro @flat_int @flat_bool) (And.intro @flat_str @flat_nils))) (And.intro (And.intro (And.intro @flat_nilp @flat_lst) (And.intro @flat_box @get_cons)) (And.intro (And.intro @omap_nil' @omap_cons') (And.intro @holds_some @regL_nil)))))) (And.intro (And.intro (And.intro (And.intro (And.intro @regL_cons (And.intro @runL_nil @runL_heavy)) (And.intro (And.intro @runL_light @runLK_put) (And.intro @runLK_no @runLA_some))) (And.intro (And.intro (And.intro @runLL_put @has_nil) (And.intro @has_cons @again_nil)) (And.intro (And.intro @again_cons @againK_some) (And.intro @light_load @light_indexAddr)))) (And.intro (And.intro (And.intro (And.intro @light_fieldAddr @light_move) (And.intro @light_nilCheck @same_int)) (And.intro (And.intro @same_bool @same_ref) (And.intro @same_ptr @same_nils))) (And.intro (And.intro (And.intro @same_nilp @noG_nil) (And.intro @noG_cons @cv_int)) (And.intro (And.intro @cv_str @cvS_1) (And.intro @cvS_2 @idx_str))))) (And.intro (And.intro (And.intro (And.intro @idx_agg (And.intro @func_eq @aBuild_eq)) (And.intro (And.intro @aBuildSlice_eq @parts_eq) (And.intro @partsL_nil @partsL_cons))) (And.intro (And.intro (And.intro @call_eq @callD_opn) (And.intro @callD_imp @callD_mem)) (And.intro (And.intro @callD_pure @exp_int) (And.intro @exp_bool @exp_str)))) (And.intro (And.intro (And.intro (And.intro @exp_nils @exp_nilp) (And.intro @exp_nilf @exp_lst)) (And.intro (And.intro @exp_box @noMem_int) (And.intro @noMem_bool @noMem_str))) (And.intro (And.intro (And.intro @rch_int @rch_bool) (And.intro @rch_str @rch_nils)) (And.intro (And.intro @rch_lst @rch_box) (And.intro @fm_nil @fm_cons)))))))) := (And.intro (And.intro (And.intro (And.intro (And.intro (And.intro (And.intro @run_nil (And.intro @run_op @run_guard)) (And.intro (And.intro @runK_put @runK_no) (And.intro @runG_true @runG_false))) (And.intro (And.intro (And.intro @regOut_some @want_eq) (And.intro @wantV_bool @wantV_tup)) (And.intro (And.intro @beq_t @beq_f) (And.intro @ev_tmp @ev_const)))) (And.intro (And.intro (And.intro @ev_func (And.intro @ofVal_bool @ofVal_int)) (And.intro (And.intro @ofVal_str @ofVal_nilp) (And.intro @ofVal_nils @ofVal_nilf))) (And.intro (And.intro (And.intro @ofVal_nilm @ofVal_agg) (And.intro @ofScal_bool @ofScal_int)) (And.intro (And.intro @ofScal_str @ofScal_nilp) (And.intro @ofScal_nils @out0_some))))) (And.intro (And.intro (And.intro (And.intro @outR_some (And.intro @freeze_nil @e_move)) (And.intro (And.intro @e_assign @e_pick) (And.intro @e_alloc @e_box))) (And.intro (And.intro (And.intro @e_build @e_buildSlice) (And.intro @e_load @e_nilCheck)) (And.intro (And.intro @e_bin @e_un) (And.intro @e_conv @e_func)))) (And.intro (And.intro (And.intro (And.intro @e_makeMap @e_makeSlice) (And.intro @e_slice @e_fieldAddr)) (And.intro (And.intro @e_field @e_indexAddr) (And.intro @e_index @e_lookup))) (And.intro (And.intro (And.intro @e_extract @e_store) (And.intro @e_mapUpdate @e_insert)) (And.intro (And.intro @e_len @e_min) (And.intro @e_max @e_append)))))) (And.intro (And.intro (And.intro (And.intro (And.intro @e_copy (And.intro @e_clear @e_call)) (And.intro (And.intro @e_dyn @len_one) (And.intro @bin_some @un_some))) (And.intro (And.intro (And.intro @conv_some @load_some) (And.intro @nilCheck_ptr @nilCheck_box)) (And.intro (And.intro @nilCheck_func @fieldAddr_some) (And.intro @field_some @indexAddr_some)))) (And.intro (And.intro (And.intro (And.intro @index_some @lookup_some) (And.intro @extract_some @pick_V)) (And.intro (And.intro @pickV_true @pickV_false) (And.intro @store_some @noTup_int))) (And.intro (And.intro (And.intro @noTup_bool @noTup_str) (And.intro @noTup_agg @noTup_lst)) (And.intro (And.intro @noTup_ref @noTup_ptr) (And.intro @noTup_nils @noTup_nilp))))) (And.intro (And.intro (And.intro (And.intro @noTup_map (And.intro @noTup_func @cells_int)) (And.intro (And.intro @cells_bool @cells_str) (And.intro @cells_agg @cells_lst))) (And.intro (And.intro (And.intro @cells_ref @cells_nils) (And.intro @cells_map @cells_func)) (And.intro (And.intro @bin_int @i_add) (And.intro @i_sub @i_mul)))) (And.intro (And.intro (And.intro (And.intro @i_quo @i_rem) (And.intro @i_eql @i_neq)) (And.intro (And.intro @i_lss @i_leq) (And.intro @i_gtr @i_geq))) (And.intro (And.intro (And.intro @bin_str @s_eql) (And.intro @s_neq @bin_bool)) (And.intro (And.intro @eq_eql @eq_neq) (And.intro @un_neg @un_not))))))) (And.intro (And.intro (And.intro (And.intro (And.intro (And.intro @load_box (And.intro @idx_ptr @idx_box)) (And.intro (And.intro @idx_ref @idx_lst) (And.intro @rowPtr_row @rowCell_row))) (And.intro (And.intro (And.intro @rowSet_row @load_p) (And.intro @store_p @fa_ptr)) (And.intro (And.intro @fa_box @fld_agg) (And.intro @part_eq @alloc_eq)))) (And.intro (And.intro (And.intro @box_some (And.intro @x_skip @x_label)) (And.intro (And.intro @x_seq @x_exit) (And.intro @x_ret @x_loop))) (And.intro (And.intro (And.intro @x_condK @condK_true) (And.intro @condK_false @x_block)) (And.intro (And.intro @x_region @seqOut_normal) (And.intro @seqOut_exit @seqOut_ret))))) (And.intro (And.intro (And.intro (And.intro @blockOut_normal (And.intro @blockOut_exit @blockOut_ret)) (And.intro (And.intro @finS_ret @finS_normal) (And.intro @res_tmp @res_cell))) (And.intro (And.intro (And.intro @one_one @one_two) (And.intro @enter_nil @enter_cons)) (And.intro (And.intro @mask_none @mask_keep) (And.intro @mask_compact @keep_nil)))) (And.intro (And.intro (And.intro (And.intro @keep_cons @keepOne_some) (And.intro @keepOne_none @compact_flat)) (And.intro (And.intro @flat_int @flat_bool) (And.intro @flat_str @flat_nils))) (And.intro (And.intro (And.intro @flat_nilp @flat_lst) (And.intro @flat_box @get_cons)) (And.intro (And.intro @omap_nil' @omap_cons') (And.intro @holds_some @regL_nil)))))) (And.intro (And.intro (And.intro (And.intro (And.intro @regL_cons (And.intro @runL_nil @runL_heavy)) (And.intro (And.intro @runL_light @runLK_put) (And.intro @runLK_no @runLA_some))) (And.intro (And.intro (And.intro @runLL_put @has_nil) (And.intro @has_cons @again_nil)) (And.intro (And.intro @again_cons @againK_some) (And.intro @light_load @light_indexAddr)))) (And.intro (And.intro (And.intro (And.intro @light_fieldAddr @light_move) (And.intro @light_nilCheck @same_int)) (And.intro (And.intro @same_bool @same_ref) (And.intro @same_ptr @same_nils))) (And.intro (And.intro (And.intro @same_nilp @noG_nil) (And.intro @noG_cons @cv_int)) (And.intro (And.intro @cv_str @cvS_1) (And.intro @cvS_2 @idx_str))))) (And.intro (And.intro (And.intro (And.intro @idx_agg (And.intro @func_eq @aBuild_eq)) (And.intro (And.intro @aBuildSlice_eq @parts_eq) (And.intro @partsL_nil @partsL_cons))) (And.intro (And.intro (And.intro @call_eq @callD_opn) (And.intro @callD_imp @callD_mem)) (And.intro (And.intro @callD_pure @exp_int) (And.intro @exp_bool @exp_str)))) (And.intro (And.intro (And.intro (And.intro @exp_nils @exp_nilp) (And.intro @exp_nilf @exp_lst)) (And.intro (And.intro @exp_box @noMem_int) (And.intro @noMem_bool @noMem_str))) (And.intro (And.intro (And.intro @rch_int @rch_bool) (And.intro @rch_str @rch_nils)) (And.intro (And.intro @rch_lst @rch_box) (And.intro @fm_nil @fm_cons))))))))
theorem keepW : type_of% (And.intro (And.intro (And.intro (And.intro (And.intro (And.intro @compact_run @idsAt_eq) (And.intro @idsO_some (And.intro @idsM_flat @okM_flat))) (And.intro (And.intro @renM_flat (And.intro @idsM_row @okM_row)) (And.intro @renM_rows (And.intro @flatM_row @flatM_map)))) (And.intro (And.intro (And.intro @addNew_eq @pos_cons) (And.intro @ids_ref (And.intro @ids_ptr @ids_map))) (And.intro (And.intro @ids_int (And.intro @ids_bool @ids_str)) (And.intro @ids_nils (And.intro @ids_nilp @ids_nilf))))) (And.intro (And.intro (And.intro (And.intro @ids_lst @ids_box) (And.intro @ids_agg (And.intro @ids_func @ids1_ref))) (And.intro (And.intro @ids1_ptr (And.intro @ids1_map @ids1_int)) (And.intro @ids1_bool (And.intro @ids1_str @ids1_nils)))) (And.intro (And.intro (And.intro @ids1_lst @ids1_box) (And.intro @ok_ref (And.intro @ok_ptr @ok_map))) (And.intro (And.intro @ok_int (And.intro @ok_bool @ok_str)) (And.intro @ok_nils (And.intro @ok_nilp @ok_nilf)))))) (And.intro (And.intro (And.intro (And.intro (And.intro @ok_lst @ok_box) (And.intro @ok_agg (And.intro @ok_func @ok1_ref))) (And.intro (And.intro @ok1_ptr (And.intro @ok1_map @ok1_int)) (And.intro @ok1_bool (And.intro @ok1_str @ok1_nils)))) (And.intro (And.intro (And.intro @ok1_lst @ok1_box) (And.intro @no_ref (And.intro @no_ptr @no_map))) (And.intro (And.intro @no_int (And.intro @no_bool @no_str)) (And.intro @no_nils (And.intro @no_nilp @no_lst))))) (And.intro (And.intro (And.intro (And.intro @no_box @ren_ref) (And.intro @ren_ptr (And.intro @ren_map @ren_int))) (And.intro (And.intro @ren_bool (And.intro @ren_str @ren_nils)) (And.intro @ren_nilp (And.intro @ren_nilf @ren_lst)))) (And.intro (And.intro (And.intro @ren_box (And.intro @ren_agg @ren_func)) (And.intro @ren1_ref (And.intro @ren1_ptr @ren1_map))) (And.intro (And.intro @ren1_int (And.intro @ren1_bool @ren1_str)) (And.intro @ren1_nils (And.intro @ren1_lst @ren1_box))))))) := (And.intro (And.intro (And.intro (And.intro (And.intro (And.intro @compact_run @idsAt_eq) (And.intro @idsO_some (And.intro @idsM_flat @okM_flat))) (And.intro (And.intro @renM_flat (And.intro @idsM_row @okM_row)) (And.intro @renM_rows (And.intro @flatM_row @flatM_map)))) (And.intro (And.intro (And.intro @addNew_eq @pos_cons) (And.intro @ids_ref (And.intro @ids_ptr @ids_map))) (And.intro (And.intro @ids_int (And.intro @ids_bool @ids_str)) (And.intro @ids_nils (And.intro @ids_nilp @ids_nilf))))) (And.intro (And.intro (And.intro (And.intro @ids_lst @ids_box) (And.intro @ids_agg (And.intro @ids_func @ids1_ref))) (And.intro (And.intro @ids1_ptr (And.intro @ids1_map @ids1_int)) (And.intro @ids1_bool (And.intro @ids1_str @ids1_nils)))) (And.intro (And.intro (And.intro @ids1_lst @ids1_box) (And.intro @ok_ref (And.intro @ok_ptr @ok_map))) (And.intro (And.intro @ok_int (And.intro @ok_bool @ok_str)) (And.intro @ok_nils (And.intro @ok_nilp @ok_nilf)))))) (And.intro (And.intro (And.intro (And.intro (And.intro @ok_lst @ok_box) (And.intro @ok_agg (And.intro @ok_func @ok1_ref))) (And.intro (And.intro @ok1_ptr (And.intro @ok1_map @ok1_int)) (And.intro @ok1_bool (And.intro @ok1_str @ok1_nils)))) (And.intro (And.intro (And.intro @ok1_lst @ok1_box) (And.intro @no_ref (And.intro @no_ptr @no_map))) (And.intro (And.intro @no_int (And.intro @no_bool @no_str)) (And.intro @no_nils (And.intro @no_nilp @no_lst))))) (And.intro (And.intro (And.intro (And.intro @no_box @ren_ref) (And.intro @ren_ptr (And.intro @ren_map @ren_int))) (And.intro (And.intro @ren_bool (And.intro @ren_str @ren_nils)) (And.intro @ren_nilp (And.intro @ren_nilf @ren_lst)))) (And.intro (And.intro (And.intro @ren_box (And.intro @ren_agg @ren_func)) (And.intro @ren1_ref (And.intro @ren1_ptr @ren1_map))) (And.intro (And.intro @ren1_int (And.intro @ren1_bool @ren1_str)) (And.intro @ren1_nils (And.intro @ren1_lst @ren1_box)))))))
theorem idsW : type_of% (And.intro (And.intro (And.intro (And.intro (And.intro @addNew_eq @ids_ref) (And.intro @ids_ptr (And.intro @ids_map @ids_int))) (And.intro (And.intro @ids_bool (And.intro @ids_str @ids_nils)) (And.intro @ids_nilp (And.intro @ids_nilf @ids_lst)))) (And.intro (And.intro (And.intro @ids_box @ids_agg) (And.intro @ids_func (And.intro @ids1_ref @ids1_ptr))) (And.intro (And.intro @ids1_map (And.intro @ids1_int @ids1_bool)) (And.intro @ids1_str (And.intro @ids1_nils @ids1_lst))))) (And.intro (And.intro (And.intro (And.intro @ids1_box @ok_ref) (And.intro @ok_ptr (And.intro @ok_map @ok_int))) (And.intro (And.intro @ok_bool (And.intro @ok_str @ok_nils)) (And.intro @ok_nilp (And.intro @ok_nilf @ok_lst)))) (And.intro (And.intro (And.intro @ok_box (And.intro @ok_agg @ok_func)) (And.intro @ok1_ref (And.intro @ok1_ptr @ok1_map))) (And.intro (And.intro @ok1_int (And.intro @ok1_bool @ok1_str)) (And.intro @ok1_nils (And.intro @ok1_lst @ok1_box)))))) := (And.intro (And.intro (And.intro (And.intro (And.intro @addNew_eq @ids_ref) (And.intro @ids_ptr (And.intro @ids_map @ids_int))) (And.intro (And.intro @ids_bool (And.intro @ids_str @ids_nils)) (And.intro @ids_nilp (And.intro @ids_nilf @ids_lst)))) (And.intro (And.intro (And.intro @ids_box @ids_agg) (And.intro @ids_func (And.intro @ids1_ref @ids1_ptr))) (And.intro (And.intro @ids1_map (And.intro @ids1_int @ids1_bool)) (And.intro @ids1_str (And.intro @ids1_nils @ids1_lst))))) (And.intro (And.intro (And.intro (And.intro @ids1_box @ok_ref) (And.intro @ok_ptr (And.intro @ok_map @ok_int))) (And.intro (And.intro @ok_bool (And.intro @ok_str @ok_nils)) (And.intro @ok_nilp (And.intro @ok_nilf @ok_lst)))) (And.intro (And.intro (And.intro @ok_box (And.intro @ok_agg @ok_func)) (And.intro @ok1_ref (And.intro @ok1_ptr @ok1_map))) (And.intro (And.intro @ok1_int (And.intro @ok1_bool @ok1_str)) (And.intro @ok1_nils (And.intro @ok1_lst @ok1_box))))))
theorem stdW : type_of% (And.intro (And.intro (And.intro (And.intro (And.intro @Option.bind_some.{0, 0} @Option.bind_none.{0, 0}) (And.intro @Option.map_some.{0, 0} (And.intro @Option.map_none.{0, 0} @if_true.{1}))) (And.intro (And.intro @if_false.{1} @List.map_cons.{0, 0}) (And.intro @List.map_nil.{0, 0} (And.intro @List.getElem?_cons_zero.{0} @List.getElem?_cons_succ.{0})))) (And.intro (And.intro (And.intro @List.getElem?_toArray.{0} @Bool.true_eq_false) (And.intro @Bool.false_eq_true (And.intro @Bool.not_true @Bool.not_false))) (And.intro (And.intro @Nat.zero_add (And.intro @Nat.add_zero @Int.toNat_zero)) (And.intro @Int.toNat_one (And.intro @Int.toNat_natCast @Int.natCast_nonneg))))) (And.intro (And.intro (And.intro (And.intro @true_and @and_true) (And.intro @and_self (And.intro @List.drop_zero.{0} @List.drop_succ_cons.{0}))) (And.intro (And.intro @List.drop_nil.{0} @List.take_zero.{0}) (And.intro @List.take_succ_cons.{0} (And.intro @List.take_nil.{0} @List.set_cons_zero.{0})))) (And.intro (And.intro (And.intro @List.set_cons_succ.{0} @List.nil_append.{0}) (And.intro @List.cons_append.{0} (And.intro @Nat.zero_mul @Nat.one_mul))) (And.intro (And.intro @Nat.mul_one (And.intro @List.length_cons.{0} @List.length_nil.{0})) (And.intro @decide_true (And.intro @decide_false @List.not_mem_nil.{0})))))) := (And.intro (And.intro (And.intro (And.intro (And.intro @Option.bind_some.{0, 0} @Option.bind_none.{0, 0}) (And.intro @Option.map_some.{0, 0} (And.intro @Option.map_none.{0, 0} @if_true.{1}))) (And.intro (And.intro @if_false.{1} @List.map_cons.{0, 0}) (And.intro @List.map_nil.{0, 0} (And.intro @List.getElem?_cons_zero.{0} @List.getElem?_cons_succ.{0})))) (And.intro (And.intro (And.intro @List.getElem?_toArray.{0} @Bool.true_eq_false) (And.intro @Bool.false_eq_true (And.intro @Bool.not_true @Bool.not_false))) (And.intro (And.intro @Nat.zero_add (And.intro @Nat.add_zero @Int.toNat_zero)) (And.intro @Int.toNat_one (And.intro @Int.toNat_natCast @Int.natCast_nonneg))))) (And.intro (And.intro (And.intro (And.intro @true_and @and_true) (And.intro @and_self (And.intro @List.drop_zero.{0} @List.drop_succ_cons.{0}))) (And.intro (And.intro @List.drop_nil.{0} @List.take_zero.{0}) (And.intro @List.take_succ_cons.{0} (And.intro @List.take_nil.{0} @List.set_cons_zero.{0})))) (And.intro (And.intro (And.intro @List.set_cons_succ.{0} @List.nil_append.{0}) (And.intro @List.cons_append.{0} (And.intro @Nat.zero_mul @Nat.one_mul))) (And.intro (And.intro @Nat.mul_one (And.intro @List.length_cons.{0} @List.length_nil.{0})) (And.intro @decide_true (And.intro @decide_false @List.not_mem_nil.{0}))))))
theorem kstdW : type_of% (And.intro (And.intro (And.intro @List.flatMap_cons.{0, 0} @List.flatMap_nil.{0, 0}) (And.intro @List.foldl_cons.{0, 0} (And.intro @List.foldl_nil.{0, 0} @List.all_cons.{0}))) (And.intro (And.intro @List.all_nil.{0} @List.append_nil.{0}) (And.intro @Bool.and_true (And.intro @Bool.true_and @Bool.and_self)))) := (And.intro (And.intro (And.intro @List.flatMap_cons.{0, 0} @List.flatMap_nil.{0, 0}) (And.intro @List.foldl_cons.{0, 0} (And.intro @List.foldl_nil.{0, 0} @List.all_cons.{0}))) (And.intro (And.intro @List.all_nil.{0} @List.append_nil.{0}) (And.intro @Bool.and_true (And.intro @Bool.true_and @Bool.and_self))))
end Go.Am

/-
  Rules for content, freezing and 'append'.
-/
set_option linter.unusedSimpArgs false
set_option linter.unusedVariables false
namespace Go.Am
section
variable {H : List Mem}
theorem exp40_ref (i a l m : Nat) : exp expFuel H (.ref i a l m) = rowC 39 H a l H[i]? := exp_ref 39 i a l m
theorem exp39_ref (i a l m : Nat) : exp 39 H (.ref i a l m) = rowC 38 H a l H[i]? := exp_ref 38 i a l m
theorem exp39_str (s : ByteArray) : exp 39 H (.str s) = some (.str s) := rfl
theorem exp39_bool (s : Bool) : exp 39 H (.bool s) = some (.bool s) := rfl
theorem exp39_int (k : IntKind) (n : Int) : exp 39 H (.int k n) = some (.int k n) := rfl
theorem exp38_str (s : ByteArray) : exp 38 H (.str s) = some (.str s) := rfl
theorem rowC_row (n a l : Nat) (es : List (List PV)) (z : Nat) (m : Bool) : rowC n H a l (some (.row es z m)) = if a + l ≤ es.length then (omap (omap (exp n H)) ((es.drop a).take l)).map .lst else none := rfl
noncomputable def rchO (n : Nat) (H : List Mem) (i a l : Nat) : Option Mem → List Nat
  | some (.row es _ _) => i :: ((es.drop a).take l).flatMap fun (c : List PV) => c.flatMap (rch n H)
  | _ => []
theorem rchO_row (n i a l : Nat) (es : List (List PV)) (z : Nat) (m : Bool) : rchO n H i a l (some (.row es z m)) = i :: ((es.drop a).take l).flatMap fun (c : List PV) => c.flatMap (rch n H) := rfl
theorem rch_refO (n i a l m : Nat) : rch (n + 1) H (.ref i a l m) = rchO n H i a l H[i]? := by
  show (match H[i]? with | some (.row es _ _) => i :: ((es.drop a).take l).flatMap fun (c : List PV) => c.flatMap (rch n H) | _ => []) = _
  generalize H[i]? = x
  cases x with
  | none => rfl
  | some m => cases m <;> rfl
theorem rch40_ref (i a l m : Nat) : rch expFuel H (.ref i a l m) = rchO 39 H i a l H[i]? := rch_refO 39 i a l m
theorem rch39_ref (i a l m : Nat) : rch 39 H (.ref i a l m) = rchO 38 H i a l H[i]? := rch_refO 38 i a l m
theorem rch39_str (s : ByteArray) : rch 39 H (.str s) = [] := rfl
theorem rch39_bool (s : Bool) : rch 39 H (.bool s) = [] := rfl
theorem rch38_str (s : ByteArray) : rch 38 H (.str s) = [] := rfl
theorem freeze_cons (i : Nat) (l : List Nat) : freeze (i :: l) H = freeze l (freeze1 H i) := rfl
noncomputable def frzO (H : List Mem) (i : Nat) : Option Mem → List Mem
  | some (.row es z _) => H.set i (.row es z false)
  | _ => H
theorem freeze1_O (i : Nat) : freeze1 H i = frzO H i H[i]? := by
  unfold freeze1 frzO
  cases H[i]? with
  | none => rfl
  | some m => cases m <;> rfl
theorem frzO_row (i : Nat) (es : List (List PV)) (z : Nat) (m : Bool) : frzO H i (some (.row es z m)) = H.set i (.row es z false) := rfl
theorem exp40_func (f : FuncId) (a c : List PV) : exp expFuel H (.func f a c) = (omap (exp 39 H) a).bind fun a' => (omap (exp 39 H) c).bind fun c' => some (.func f a' c') := by
  show (omap (exp 39 H) a).bind (fun a' => (omap (exp 39 H) c).map fun c' => PV.func f a' c') = _
  cases omap (exp 39 H) a with
  | none => rfl
  | some x => cases omap (exp 39 H) c <;> rfl
noncomputable def ptrC (n : Nat) (H : List Mem) (i r : Nat) : Option Mem → Option PV
  | some (.row es _ _) => (es[i]?).bind fun c => (omap (exp n H) c).bind fun q => some (.box q r)
  | _ => none
theorem ptrC_row (n i r : Nat) (es : List (List PV)) (z : Nat) (m : Bool) : ptrC n H i r (some (.row es z m)) = (es[i]?).bind fun c => (omap (exp n H) c).bind fun q => some (.box q r) := rfl
theorem exp_ptrO (n id i r : Nat) : exp (n + 1) H (.ptr id i r) = ptrC n H i r H[id]? := by
  show (match H[id]? with | some (.row es _ _) => (es[i]?).bind fun c => (omap (exp n H) c).map fun q => PV.box q r | _ => none) = _
  generalize H[id]? = x
  cases x with
  | none => rfl
  | some m =>
    cases m with
    | row es z b =>
      simp only [ptrC]
      cases es[i]? with
      | none => rfl
      | some c =>
        simp only [Option.bind_some]
        cases omap (exp n H) c <;> rfl
    | map _ => rfl
    | dead => rfl
theorem exp39_ptr (id i r : Nat) : exp 39 H (.ptr id i r) = ptrC 38 H i r H[id]? := exp_ptrO 38 id i r
theorem rch40_func (f : FuncId) (a c : List PV) : rch expFuel H (.func f a c) = a.flatMap (rch 39 H) ++ c.flatMap (rch 39 H) := rfl
theorem exp39_box (c : List PV) (r : Nat) : exp 39 H (.box c r) = some (.box c r) := rfl
theorem src_lst (es : List (List PV)) : srcOf H (.lst es) = some es := rfl
noncomputable def elemsO (a l : Nat) : Option Mem → Option (List (List PV))
  | some (.row es _ _) => if a + l ≤ es.length then some ((es.drop a).take l) else none
  | _ => none
theorem src_ref (i a l m : Nat) : srcOf H (.ref i a l m) = elemsO a l H[i]? := by
  show (match H[i]? with | some (.row es _ _) => if a + l ≤ es.length then some ((es.drop a).take l) else none | _ => none) = _
  generalize H[i]? = x
  cases x with
  | none => rfl
  | some m => cases m <;> rfl
theorem elemsO_row (a l : Nat) (es : List (List PV)) (z : Nat) (m : Bool) : elemsO a l (some (.row es z m)) = if a + l ≤ es.length then some ((es.drop a).take l) else none := rfl
theorem headOk_one (c : List PV) (l : List (List PV)) (z : Nat) : headOk (c :: l) z = (c.length == z) := rfl
/-- 'append' to what is nil. -/
theorem appS_nil (z b : Nat) (c : List PV) (l : List (List PV)) : appendS H z b .nils (c :: l) = if (c :: l).length * b ≤ 140737488355328 then some (.ref H.length 0 (c :: l).length (c :: l).length, H ++ [Mem.row (c :: l) z true]) else none := rfl
/-- 'append' to a full row of one's own. -/
theorem appS_full {z b i k : Nat} {es : List (List PV)} (hH : H[i]? = some (.row es z true)) (hl : es.length = k) (hb : (k + 1) * b ≤ 140737488355328) (c : List PV) : appendS H z b (.ref i 0 k k) [c] = some (.ref H.length 0 (k + 1) (k + 1), H.set i .dead ++ [Mem.row (es ++ [c]) z true]) := by
  simp only [appendS, hH, List.isEmpty_cons, Bool.false_eq_true, if_false, List.length_cons, List.length_nil, Nat.zero_add, List.drop_zero]
  rw [if_pos ⟨trivial, by omega⟩, if_neg (by omega), if_pos hb, List.take_of_length_le (by omega)]
end

theorem app_row {z b i p k : Nat} {H : List Mem} {pre es : List (List PV)} (hH : H[i]? = some (.row (pre ++ es) z true)) (hp : pre.length = p) (hl : es.length = k) (hb : (k + 1) * b ≤ 140737488355328) (c : List PV) : appendS H z b (.ref i p k k) [c] = some (.ref H.length 0 (k + 1) (k + 1), H.set i .dead ++ [Mem.row (es ++ [c]) z true]) := by
  simp only [appendS, hH, List.isEmpty_cons, Bool.false_eq_true, if_false, List.length_cons, List.length_nil, Nat.zero_add, List.length_append]
  rw [if_pos ⟨trivial, by omega⟩, if_neg (by omega), if_pos hb]
  congr 3
  rw [← hp, List.drop_left, ← hl, List.take_length]

/-! parts of slices and strings -/
section
variable {P : Program} {H : List Mem} {ρ : Operand → Option PV}
noncomputable def sliceRow (z id i l h x : Nat) : Option Mem → Option PV
  | some (.row _ z' _) => if z' = z then some (.ref id (i + l) (h - l) (x - l)) else none
  | _ => none
theorem sliceRow_row (z id i l h x : Nat) (es : List (List PV)) (z' : Nat) (m : Bool) : sliceRow z id i l h x (some (.row es z' m)) = if z' = z then some (.ref id (i + l) (h - l) (x - l)) else none := rfl
theorem slice_eq (t : TypeId) (x : Operand) (lo hi mx : Option Operand) : aSlice P H ρ t x lo hi mx = (ρ x).bind fun v => (aOpt ρ lo).bind fun l => (aOpt ρ hi).bind fun k => (aOpt ρ mx).bind fun m => slicePV P H t v l k m := rfl
theorem opt_none : aOpt ρ none = some none := rfl
theorem opt_some (x : Operand) : aOpt ρ (some x) = (ρ x).bind fun v => some (some v) := by
  show (ρ x).map some = _
  cases ρ x <;> rfl
theorem sl_ref (t : TypeId) (id i n m : Nat) (lo hi mx : Option PV) : slicePV P H t (.ref id i n m) lo hi mx = (slZ P t).bind fun z => (bounds3 n m lo hi mx).bind fun b => sliceRow z id i b.1 b.2.1 b.2.2 H[id]? := by
  unfold slicePV slZ telem
  cases P.underlying t with
  | none => rfl
  | some d => cases d <;> rfl
theorem sl_lst (t : TypeId) (es : List (List PV)) (lo hi mx : Option PV) : slicePV P H t (.lst es) lo hi mx = (slZ P t).bind fun z => (bounds3 es.length es.length lo hi mx).bind fun b => if headOk es z = true then some (.lst ((es.take b.2.1).drop b.1)) else none := by
  unfold slicePV slZ telem
  cases P.underlying t with
  | none => rfl
  | some d => cases d <;> rfl
theorem sl_nils (t : TypeId) (lo hi mx : Option PV) : slicePV P H t .nils lo hi mx = (slZ P t).bind fun _ => (bounds3 0 0 lo hi mx).bind fun _ => some .nils := by
  unfold slicePV slZ telem
  cases P.underlying t with
  | none => rfl
  | some d =>
    cases d <;> try rfl
    rename_i e
    simp only [Option.bind_some]
    cases tsize P e with
    | none => rfl
    | some z => simp only [Option.bind_some]; cases bounds3 0 0 lo hi mx <;> rfl
theorem sl_str (t : TypeId) (s : ByteArray) (lo hi : Option PV) : slicePV P H t (.str s) lo hi none = if isStrT P t = true then (bounds s.size lo hi).bind fun b => some (.str (s.extract b.1 b.2)) else none := by
  unfold slicePV isStrT
  cases P.underlying t with
  | none => rfl
  | some d => cases d <;> first
    | rfl
    | (simp only []; cases bounds s.size lo hi <;> rfl)
theorem bnd3_no (n m : Nat) (lo hi : Option PV) : bounds3 n m lo hi none = (bHiR n m hi).bind fun h => (bLo h lo).bind fun l => some (l, h, m) := by
  simp only [bounds3, Option.isSome_none, Bool.false_and, Bool.false_eq_true, if_false, bMx, Option.bind_some]
theorem bnd3_mx (n m : Nat) (lo : Option PV) (h x : PV) : bounds3 n m lo (some h) (some x) = (bHiR n m (some h)).bind fun h => (bLo h lo).bind fun l => (bMx h m (some x)).bind fun x => some (l, h, x) := by
  simp only [bounds3, Option.isNone_some, Bool.and_false, Bool.false_eq_true, if_false]
theorem bHiR_no (n m : Nat) : bHiR n m none = some n := rfl
theorem bHiR_int (n m : Nat) (k : IntKind) (h : Int) : bHiR n m (some (.int k h)) = if 0 ≤ h ∧ h ≤ m then some h.toNat else none := rfl
theorem bMx_int (h m : Nat) (k : IntKind) (x : Int) : bMx h m (some (.int k x)) = if h ≤ x ∧ x ≤ m then some x.toNat else none := rfl
theorem bLo_no (h : Nat) : bLo h none = some 0 := rfl
theorem bLo_int (h : Nat) (k : IntKind) (l : Int) : bLo h (some (.int k l)) = if 0 ≤ l ∧ l ≤ h then some l.toNat else none := rfl
theorem bnd_eq (n : Nat) (lo hi : Option PV) : bounds n lo hi = (bHi n hi).bind fun h => (bLo h lo).bind fun l => some (l, h) := rfl
theorem bHi_no (n : Nat) : bHi n none = some n := rfl
theorem bHi_int (n : Nat) (k : IntKind) (h : Int) : bHi n (some (.int k h)) = if 0 ≤ h ∧ h ≤ n then some h.toNat else none := rfl
theorem sliceW : type_of% (And.intro (@sliceRow_row) (And.intro (@slice_eq) (And.intro (@opt_none) (And.intro (@opt_some) (And.intro (@sl_ref) (And.intro (@sl_lst) (And.intro (@sl_nils) (And.intro (@sl_str) (And.intro (@bnd3_no) (And.intro (@bnd3_mx) (And.intro (@bHiR_no) (And.intro (@bHiR_int) (And.intro (@bMx_int) (And.intro (@bLo_no) (And.intro (@bLo_int) (And.intro (@bnd_eq) (And.intro (@bHi_no) (@bHi_int)))))))))))))))))) :=
  (And.intro (@sliceRow_row) (And.intro (@slice_eq) (And.intro (@opt_none) (And.intro (@opt_some) (And.intro (@sl_ref) (And.intro (@sl_lst) (And.intro (@sl_nils) (And.intro (@sl_str) (And.intro (@bnd3_no) (And.intro (@bnd3_mx) (And.intro (@bHiR_no) (And.intro (@bHiR_int) (And.intro (@bMx_int) (And.intro (@bLo_no) (And.intro (@bLo_int) (And.intro (@bnd_eq) (And.intro (@bHi_no) (@bHi_int))))))))))))))))))
theorem makeSlice_nat (base : Nat) (t : TypeId) (k k' : IntKind) (n : Nat) : aMakeSlice P base t (some (.int k n)) (some (.int k' n)) = (telem P t).bind fun e => (tsize P e).bind fun z => (tbytes P e).bind fun by_ => (zcells P e).bind fun zero =>
    if by_ * n ≤ 281474976710656 ∧ n < 9223372036854775808 ∧ 0 < z ∧ zero.length = z then some (.ref base 0 n n, [.row (List.replicate n zero) z true], []) else none := by
  show (makeSliceM P t (.int k n) (.int k' n)).map _ = _
  unfold makeSliceM
  simp only []
  cases telem P t with
  | none => rfl
  | some e =>
    simp only [Option.bind_some]
    cases tsize P e with
    | none => rfl
    | some z =>
      simp only [Option.bind_some]
      cases tbytes P e with
      | none => rfl
      | some b =>
        simp only [Option.bind_some]
        cases zcells P e with
        | none => rfl
        | some zero =>
          simp only [Option.bind_some, Int.toNat_natCast]
          by_cases h : b * n ≤ 281474976710656 ∧ n < 9223372036854775808 ∧ 0 < z ∧ zero.length = z
          · have h1 : ((b * n : Nat) : Int) ≤ 281474976710656 := by have := h.1; omega
            rw [if_pos h, if_pos ⟨by omega, by omega, by rw [Int.natCast_mul] at h1; exact h1, by have := h.2.1; omega, h.2.2⟩]; rfl
          · rw [if_neg h, if_neg (fun h' => h ⟨by have h1 := h'.2.2.1; rw [← Int.natCast_mul] at h1; omega, by have := h'.2.2.2.1; omega, h'.2.2.2.2⟩)]; rfl
end
end Go.Am

/-
  Own memory numbered anew: rows of rows.
-/
set_option linter.unusedSimpArgs false
set_option linter.unusedVariables false
namespace Go.Am

theorem flat_ids {m : Mem} (h : flatM m = true) : idsM m = [] ∧ okM m = true ∧ ∀ l, renM l m = m := ⟨idsM_flat h, okM_flat h, renM_flat h⟩
theorem pos_app {l : List Nat} {i : Nat} : ∀ {k : Nat}, l[k]? = some i → (∀ j, j < k → l[j]? ≠ some i) → pos i l = k := by
  induction l with
  | nil => intro k h; simp at h
  | cons a l ih =>
    intro k h hn
    rw [pos_cons]
    cases k with
    | zero => simp at h; rw [if_pos h.symm]
    | succ k =>
      have h0 := hn 0 (by omega)
      simp at h0
      rw [if_neg (fun e => h0 e.symm), ih (k := k) (by simpa using h) (fun j hj => by have := hn (j + 1) (by omega); simpa using this)]
theorem pos_range {i k : Nat} (h : i < k) : pos i (List.range k) = i :=
  pos_app (by simp [h]) (fun j hj => by rw [List.getElem?_range (by omega)]; simp; omega)
theorem ren1_same {l : List Nat} {v : PV} (h : ∀ i ∈ idsOf1 v, pos i l = i) : ren1 l v = v := by
  cases v <;> simp_all [idsOf1, ren1]
theorem ren_same {l : List Nat} {v : PV} (h : ∀ i ∈ idsOf v, pos i l = i) : ren l v = v := by
  cases v with
  | agg cs =>
    simp only [ren, PV.agg.injEq]
    simp only [idsOf, List.mem_flatMap] at h
    conv => rhs; rw [← List.map_id cs]
    exact List.map_congr_left fun c hc => ren1_same fun i hi => h i ⟨c, hc, hi⟩
  | func f a c =>
    simp only [ren, PV.func.injEq, true_and]
    simp only [idsOf, List.mem_append, List.mem_flatMap] at h
    constructor
    · conv => rhs; rw [← List.map_id a]
      exact List.map_congr_left fun c hc => ren1_same fun i hi => h i (.inl ⟨c, hc, hi⟩)
    · conv => rhs; rw [← List.map_id c]
      exact List.map_congr_left fun c hc => ren1_same fun i hi => h i (.inr ⟨c, hc, hi⟩)
  | _ => simp only [ren]; exact ren1_same (by simpa only [idsOf] using h)
theorem renM_same {l : List Nat} {m : Mem} (h : ∀ i ∈ idsM m, pos i l = i) : renM l m = m := by
  cases hf : flatM m with
  | true => exact renM_flat hf l
  | false =>
    cases m with
    | row es z b =>
      rw [renM_rows hf]
      rw [idsM_row hf] at h
      congr 1
      conv => rhs; rw [← List.map_id es]
      refine List.map_congr_left fun c hc => ?_
      conv => rhs; rw [id, ← List.map_id c]
      exact List.map_congr_left fun v hv => ren_same fun i hi => h i (List.mem_flatMap.2 ⟨c, hc, List.mem_flatMap.2 ⟨v, hv, hi⟩⟩)
    | map es =>
      simp only [renM, hf, cond_false]
      simp only [idsM, hf, cond_false, List.mem_flatMap, List.mem_append] at h
      congr 1
      conv => rhs; rw [← List.map_id es]
      refine List.map_congr_left fun x hx => ?_
      rw [ren_same fun i hi => h i ⟨x, hx, .inl hi⟩, ren_same fun i hi => h i ⟨x, hx, .inr hi⟩]; rfl
    | dead => simp only [renM, hf, cond_false]
theorem omap_all {α β : Type} {f : α → Option β} {g : α → β} : ∀ {l : List α}, (∀ x ∈ l, f x = some (g x)) → omap f l = some (l.map g)
  | [], _ => rfl
  | x :: l, h => by rw [omap_cons', h x List.mem_cons_self, omap_all fun y hy => h y (List.mem_cons_of_mem _ hy)]; rfl
/-- Own memory that is numbered well already. -/
theorem compact_range {tm : List (Nat × PV)} {H : List Mem} {k : Nat} (hk : k ≤ H.length) (hids : closeStep H (closeStep H (closeStep H (idsT tm))) = List.range k) (hok : tm.all (fun x => okIds x.2) = true) (htm : ∀ x ∈ tm, ∀ i ∈ idsOf x.2, i < k)
    (hm : ∀ i m, i < k → H[i]? = some m → okM m = true ∧ ∀ j ∈ idsM m, j < k) : compact tm H = some ⟨tm, H.take k⟩ := by
  rw [compact_run, hids, compactK, if_pos hok]
  have h1 : omap (fun i => (H[i]?).bind fun m => if (okM m && (idsM m).all (List.range k).contains) = true then some (renM (List.range k) m) else none) (List.range k) = some (H.take k) := by
    have h2 : (List.range k).map (fun i => H[i]?.getD .dead) = H.take k := by
      apply List.ext_getElem?
      intro i
      rw [List.getElem?_map, List.getElem?_take]
      by_cases hi : i < k
      · rw [List.getElem?_range hi, if_pos hi, Option.map_some, List.getElem?_eq_getElem (by omega)]; rfl
      · rw [if_neg hi, List.getElem?_eq_none (by simp; omega)]; rfl
    rw [← h2]
    refine omap_all fun i hi => ?_
    have hik : i < k := by simpa using hi
    obtain ⟨m, hH⟩ : ∃ m, H[i]? = some m := ⟨H[i]'(by omega), List.getElem?_eq_getElem (by omega)⟩
    obtain ⟨h3, h4⟩ := hm i m hik hH
    rw [hH]
    simp only [Option.bind_some, Option.getD_some, h3, Bool.true_and]
    rw [if_pos (by rw [List.all_eq_true]; intro j hj; simpa using h4 j hj), renM_same fun j hj => pos_range (h4 j hj)]
  rw [h1, Option.map_some]
  congr 2
  conv => rhs; rw [← List.map_id tm]
  refine List.map_congr_left fun x hx => ?_
  rw [ren_same fun i hi => pos_range (htm x hx i hi)]; rfl

/-- The places of rows. -/
noncomputable def refAt (b k w i : Nat) : List PV := if i < k then [.ref (i + b) 0 w w] else [.nils]
noncomputable def refsRow (b n k w : Nat) : List (List PV) := (List.range n).map (refAt b k w)
theorem refsRow_len (b n k w : Nat) : (refsRow b n k w).length = n := by simp [refsRow]
theorem refsRow_get {b n k w i : Nat} (hi : i < k) (hk : k ≤ n) : (refsRow b n k w)[i]? = some [.ref (i + b) 0 w w] := by
  rw [refsRow, List.getElem?_map, List.getElem?_range (by omega), Option.map_some, refAt, if_pos hi]
theorem refsRow_nil {b n k w i : Nat} (hi : k ≤ i) (hk : i < n) : (refsRow b n k w)[i]? = some [.nils] := by
  rw [refsRow, List.getElem?_map, List.getElem?_range (by omega), Option.map_some, refAt, if_neg (by omega)]
theorem refsRow_set {b n k w : Nat} (hk : k < n) : (refsRow b n k w).set k [.ref (k + b) 0 w w] = refsRow b n (k + 1) w := by
  apply List.ext_getElem?
  intro i
  rw [List.getElem?_set, refsRow_len]
  by_cases hi : k = i
  · subst hi
    rw [if_pos rfl, if_pos hk, refsRow_get (by omega) (by omega)]
  · rw [if_neg hi]
    by_cases hn : i < n
    · by_cases hik : i < k
      · rw [refsRow_get hik (by omega), refsRow_get (by omega) (by omega)]
      · rw [refsRow_nil (by omega) hn, refsRow_nil (by omega) hn]
    · rw [List.getElem?_eq_none (by rw [refsRow_len]; omega), List.getElem?_eq_none (by rw [refsRow_len]; omega)]
theorem refsRow_zero (b n w : Nat) : refsRow b n 0 w = List.replicate n [.nils] := by
  apply List.ext_getElem?
  intro i
  by_cases hn : i < n
  · rw [refsRow_nil (by omega) hn, List.getElem?_replicate_of_lt hn]
  · rw [List.getElem?_eq_none (by rw [refsRow_len]; omega), List.getElem?_eq_none (by simp; omega)]
theorem refsRow_idsL {b w k : Nat} : ∀ {n : Nat}, k ≤ n → ((List.range n).map (refAt b k w)).flatMap (fun c => c.flatMap idsOf) = (List.range k).map (· + b)
  | 0, h => by have : k = 0 := by omega
               subst this; rfl
  | n + 1, h => by
    by_cases hk : k ≤ n
    · rw [List.range_succ, List.map_append, List.flatMap_append, refsRow_idsL hk]
      simp [refAt, show ¬ n < k by omega, idsOf, idsOf1]
    · have hkn : k = n + 1 := by omega
      subst hkn
      have : (List.range (n + 1)).map (refAt b (n + 1) w) = (List.range (n + 1)).map fun i => [PV.ref (i + b) 0 w w] := by
        refine List.map_congr_left fun i hi => ?_
        simp only [refAt, if_pos (by simpa using hi : i < n + 1)]
      rw [this, List.flatMap_map]
      have h2 : ∀ l : List Nat, l.flatMap (fun a => [PV.ref (a + b) 0 w w].flatMap idsOf) = l.map (· + b) := by
        intro l
        induction l with
        | nil => rfl
        | cons a l ih => rw [List.flatMap_cons, ih]; rfl
      exact h2 _
theorem refsRow_M (b n k w : Nat) (hk : k ≤ n) (m : Bool) : okM (.row (refsRow b n k w) 1 m) = true ∧ idsM (.row (refsRow b n k w) 1 m) = (List.range k).map (· + b) := by
  cases hf : flatM (.row (refsRow b n k w) 1 m) with
  | true =>
    refine ⟨okM_flat hf, ?_⟩
    rw [idsM_flat hf]
    rw [flatM_row, List.all_eq_true] at hf
    cases k with
    | zero => rfl
    | succ k =>
      have := hf [.ref (0 + b) 0 w w] (List.mem_of_getElem? (refsRow_get (i := 0) (by omega) hk))
      simp [noIds] at this
  | false =>
    refine ⟨?_, by rw [idsM_row hf]; exact refsRow_idsL hk⟩
    rw [okM_row hf, List.all_eq_true]
    intro c hc
    simp only [refsRow, List.mem_map] at hc
    obtain ⟨i, _, rfl⟩ := hc
    unfold refAt
    split <;> rfl
theorem addNew_all : ∀ {l l' : List Nat}, (∀ x ∈ l', x ∈ l) → l'.foldl addNew l = l
  | _, [], _ => rfl
  | l, x :: r, h => by
    rw [List.foldl_cons, addNew_eq, if_pos (h x List.mem_cons_self)]
    exact addNew_all fun y hy => h y (List.mem_cons_of_mem _ hy)
theorem addNew_range (b : Nat) : ∀ k : Nat, ((List.range k).map (· + b)).foldl addNew (List.range b) = List.range (b + k)
  | 0 => rfl
  | k + 1 => by
    rw [List.range_succ, List.map_append, List.foldl_append, addNew_range b k, List.map_cons, List.map_nil, List.foldl_cons, List.foldl_nil, addNew_eq, if_neg (by simp; omega)]
    rw [show b + (k + 1) = (b + k) + 1 by omega, List.range_succ, Nat.add_comm k b]
/-- A row of rows at 0, flat memory behind it, then its rows. -/
theorem compact_rows {tm : List (Nat × PV)} {b n k w : Nat} {mm : Bool} {pre rows junk : List Mem} (hb : pre.length + 1 = b) (hrl : rows.length = k) (hkn : k ≤ n) (hp : ∀ m ∈ pre, flatM m = true) (hr : ∀ m ∈ rows, flatM m = true)
    (hids : idsT tm = List.range b) (hok : tm.all (fun x => okIds x.2) = true) : compact tm (.row (refsRow b n k w) 1 mm :: (pre ++ (rows ++ junk))) = some ⟨tm, .row (refsRow b n k w) 1 mm :: (pre ++ rows)⟩ := by
  have hz : ∀ i, 0 < i → i < b + k → idsAt (.row (refsRow b n k w) 1 mm :: (pre ++ (rows ++ junk))) i = [] := by
    intro i h0 hi
    obtain ⟨j, rfl⟩ : ∃ j, i = j + 1 := ⟨i - 1, by omega⟩
    rw [idsAt_eq, List.getElem?_cons_succ]
    by_cases hj : j < pre.length
    · rw [List.getElem?_append_left hj, List.getElem?_eq_getElem hj]
      exact (flat_ids (hp _ (List.getElem_mem hj))).1
    · rw [List.getElem?_append_right (by omega), List.getElem?_append_left (by omega), List.getElem?_eq_getElem (by omega)]
      exact (flat_ids (hr _ (List.getElem_mem _))).1
  have h0 : idsAt (.row (refsRow b n k w) 1 mm :: (pre ++ (rows ++ junk))) 0 = (List.range k).map (· + b) := by
    rw [idsAt_eq]; exact (refsRow_M b n k w hkn mm).2
  have hfm : ∀ c, 1 ≤ c → c ≤ b + k → (List.range c).flatMap (idsAt (.row (refsRow b n k w) 1 mm :: (pre ++ (rows ++ junk)))) = (List.range k).map (· + b) := by
    intro c hc hck
    obtain ⟨d, rfl⟩ : ∃ d, c = d + 1 := ⟨c - 1, by omega⟩
    rw [List.range_succ_eq_map, List.flatMap_cons, h0]
    have : ((List.range d).map Nat.succ).flatMap (idsAt (.row (refsRow b n k w) 1 mm :: (pre ++ (rows ++ junk)))) = [] := by
      rw [List.flatMap_eq_nil_iff]
      intro x hx
      obtain ⟨y, hy, rfl⟩ := List.mem_map.1 hx
      exact hz _ (by omega) (by have : y < d := by simpa using hy
                                omega)
    rw [this, List.append_nil]
  have c1 : closeStep (.row (refsRow b n k w) 1 mm :: (pre ++ (rows ++ junk))) (List.range b) = List.range (b + k) := by
    rw [closeStep, hfm b (by omega) (by omega), addNew_range]
  have c2 : closeStep (.row (refsRow b n k w) 1 mm :: (pre ++ (rows ++ junk))) (List.range (b + k)) = List.range (b + k) := by
    rw [closeStep, hfm (b + k) (by omega) (by omega)]
    exact addNew_all fun x hx => by simp only [List.mem_map, List.mem_range] at hx ⊢; omega
  have hlen : (Mem.row (refsRow b n k w) 1 mm :: (pre ++ (rows ++ junk))).length = b + k + junk.length := by simp; omega
  rw [compact_range (k := b + k) (by omega) (by rw [hids, c1, c2, c2]) hok ?_ ?_]
  · congr 2
    obtain ⟨c, hc⟩ : ∃ c, b + k = c + 1 := ⟨b + k - 1, by omega⟩
    rw [hc, List.take_succ_cons, ← List.append_assoc, List.take_append_of_le_length (by simp; omega), List.take_of_length_le (by simp; omega)]
  · intro x hx i hi
    have : i ∈ idsT tm := by
      have hmem : i ∈ tm.flatMap fun x => idsOf x.2 := List.mem_flatMap.2 ⟨x, hx, hi⟩
      have hfold : ∀ (l acc : List Nat), (∀ y, y ∈ l ∨ y ∈ acc → y ∈ l.foldl addNew acc) := by
        intro l
        induction l with
        | nil => intro acc y hy; simpa using hy
        | cons a l ih =>
          intro acc y hy
          rw [List.foldl_cons]
          apply ih
          rw [addNew_eq]
          rcases hy with hy | hy
          · rcases List.mem_cons.1 hy with rfl | hy
            · right; split
              · assumption
              · simp
            · exact .inl hy
          · right; split
            · exact hy
            · simp [hy]
      exact hfold _ _ i (.inl hmem)
    rw [hids] at this
    have : i < b := by simpa using this
    omega
  · intro i m hi hH
    cases i with
    | zero =>
      simp only [List.getElem?_cons_zero, Option.some.injEq] at hH
      subst hH
      obtain ⟨h1, h2⟩ := refsRow_M b n k w hkn mm
      refine ⟨h1, fun j hj => ?_⟩
      rw [h2] at hj
      simp only [List.mem_map, List.mem_range] at hj
      omega
    | succ j =>
      have hfl : flatM m = true := by
        rw [List.getElem?_cons_succ] at hH
        by_cases hj : j < pre.length
        · rw [List.getElem?_append_left hj] at hH
          exact hp _ (List.mem_of_getElem? hH)
        · rw [List.getElem?_append_right (by omega), List.getElem?_append_left (by omega)] at hH
          exact hr _ (List.mem_of_getElem? hH)
      obtain ⟨h1, h2, _⟩ := flat_ids hfl
      exact ⟨h2, fun x hx => by rw [h1] at hx; cases hx⟩
theorem compact_rows0 {tm : List (Nat × PV)} {n k w : Nat} {mm : Bool} {rows : List Mem} (hrl : rows.length = k) (hkn : k ≤ n) (hr : ∀ m ∈ rows, flatM m = true) (hids : idsT tm = [0]) (hok : tm.all (fun x => okIds x.2) = true) :
    (compact tm (.row (refsRow 1 n k w) 1 mm :: rows) = some ⟨tm, .row (refsRow 1 n k w) 1 mm :: rows⟩) ∧ ∀ junk, compact tm (.row (refsRow 1 n k w) 1 mm :: (rows ++ junk)) = some ⟨tm, .row (refsRow 1 n k w) 1 mm :: rows⟩ := by
  have h := fun junk => compact_rows (tm := tm) (b := 1) (n := n) (k := k) (w := w) (mm := mm) (pre := []) (rows := rows) (junk := junk) rfl hrl hkn (by simp) hr (by rw [hids]; rfl) hok
  refine ⟨?_, h⟩
  have h0 := h []
  rwa [List.append_nil] at h0
end Go.Am

/-
  Own memory numbered anew: a box, an outer row, and its rows in any order.
-/
set_option linter.unusedSimpArgs false
set_option linter.unusedVariables false
namespace Go.Am

theorem foldl_addNew : ∀ {l' l : List Nat}, (∀ i j, i < j → j < l'.length → l'[i]? ≠ l'[j]?) → (∀ x ∈ l', x ∉ l) → l'.foldl addNew l = l ++ l'
  | [], l, _, _ => by simp
  | x :: r, l, hd, hn => by
    rw [List.foldl_cons, addNew_eq, if_neg (hn x List.mem_cons_self), foldl_addNew]
    · simp
    · intro i j hij hj
      have := hd (i + 1) (j + 1) (by omega) (by simpa using hj)
      simpa using this
    · intro y hy
      simp only [List.mem_append, List.mem_singleton, not_or]
      refine ⟨hn y (List.mem_cons_of_mem _ hy), fun e => ?_⟩
      subst e
      obtain ⟨k, hk⟩ := List.mem_iff_getElem?.1 hy
      have hkl := (List.getElem?_eq_some_iff.1 hk).1
      exact hd 0 (k + 1) (by omega) (by simpa using hkl) (by simp [hk])
noncomputable def outerRow (m : Nat) (f w : Nat → Nat) : List (List PV) := (List.range m).map fun i => [.ref (f i) 0 (w i) (w i)]
theorem outerRow_ids (m : Nat) (f w : Nat → Nat) : (outerRow m f w).flatMap (fun c => c.flatMap idsOf) = (List.range m).map f := by
  rw [outerRow, List.flatMap_map]
  induction m with
  | zero => rfl
  | succ m ih => rw [List.range_succ, List.flatMap_append, List.map_append, ih]; rfl
theorem outerRow_flat {m : Nat} (hm : 0 < m) (f w : Nat → Nat) (z : Nat) (mm : Bool) : flatM (.row (outerRow m f w) z mm) = false := by
  rw [flatM_row, List.all_eq_false]
  refine ⟨[.ref (f 0) 0 (w 0) (w 0)], List.mem_map.2 ⟨0, by simpa using hm, rfl⟩, ?_⟩
  simp [noIds]
theorem compact_outer {tm : List (Nat × PV)} {H : List Mem} {o m : Nat} {f w : Nat → Nat} {m0 : Mem} {mm : Bool} {rows : Nat → Mem} (hm : 0 < m)
    (h0 : H[0]? = some m0) (f0 : flatM m0 = true) (ho : H[o]? = some (.row (outerRow m f w) 1 mm)) (ho0 : o ≠ 0)
    (hr : ∀ i, i < m → H[f i]? = some (rows i) ∧ flatM (rows i) = true) (hf0 : ∀ i, i < m → f i ≠ 0 ∧ f i ≠ o) (hinj : ∀ i j, i < j → j < m → f i ≠ f j)
    (hids : idsT tm = [0, o]) (hok : tm.all (fun x => okIds x.2) = true) :
    compact tm H = some ⟨tm.map fun x => (x.1, ren (0 :: o :: (List.range m).map f) x.2), m0 :: .row (outerRow m (· + 2) w) 1 mm :: (List.range m).map rows⟩ := by
  have hfl := outerRow_flat hm f w 1 mm
  have a0 : idsAt H 0 = [] := by rw [idsAt_eq, h0]; exact idsM_flat f0
  have ao : idsAt H o = (List.range m).map f := by rw [idsAt_eq, ho, idsO_some, idsM_row hfl, outerRow_ids]
  have ar : ∀ i, i < m → idsAt H (f i) = [] := fun i hi => by rw [idsAt_eq, (hr i hi).1]; exact idsM_flat (hr i hi).2
  have hall : ((List.range m).map f).flatMap (idsAt H) = [] := by
    rw [List.flatMap_eq_nil_iff]
    intro x hx
    obtain ⟨i, hi, rfl⟩ := List.mem_map.1 hx
    exact ar i (by simpa using hi)
  have c1 : closeStep H [0, o] = 0 :: o :: (List.range m).map f := by
    rw [closeStep, List.flatMap_cons, List.flatMap_cons, List.flatMap_nil, a0, ao, List.append_nil, List.nil_append, foldl_addNew]
    · rfl
    · intro i j hij hj
      rw [List.length_map, List.length_range] at hj
      rw [List.getElem?_map, List.getElem?_map, List.getElem?_range (by omega), List.getElem?_range hj]
      simpa using hinj i j hij hj
    · intro x hx
      obtain ⟨i, hi, rfl⟩ := List.mem_map.1 hx
      have := hf0 i (by simpa using hi)
      simp [this.1, this.2]
  have c2 : closeStep H (0 :: o :: (List.range m).map f) = 0 :: o :: (List.range m).map f := by
    rw [closeStep, List.flatMap_cons, List.flatMap_cons, hall, a0, ao, List.append_nil, List.nil_append]
    exact addNew_all fun x hx => List.mem_cons_of_mem _ (List.mem_cons_of_mem _ hx)
  rw [compact_run, hids, c1, c2, c2, compactK, if_pos hok]
  have hp : ∀ i, i < m → pos (f i) (0 :: o :: (List.range m).map f) = i + 2 := by
    intro i hi
    have := hf0 i hi
    rw [pos_cons, if_neg this.1, pos_cons, if_neg this.2, pos_app (k := i)]
    · rw [List.getElem?_map, List.getElem?_range hi]; rfl
    · intro j hj
      rw [List.getElem?_map, List.getElem?_range (by omega)]
      simpa using hinj j i hj hi
  generalize hI : 0 :: o :: (List.range m).map f = ids at hp ⊢
  have hcon : ∀ i, i < m → f i ∈ ids := fun i hi => by rw [← hI]; exact List.mem_cons_of_mem _ (List.mem_cons_of_mem _ (List.mem_map.2 ⟨i, by simpa using hi, rfl⟩))
  have g0 : ((H[0]?).bind fun m => if (okM m && (idsM m).all ids.contains) = true then some (renM ids m) else none) = some m0 := by
    rw [h0, Option.bind_some, okM_flat f0, idsM_flat f0, renM_flat f0]; rfl
  have go : ((H[o]?).bind fun m => if (okM m && (idsM m).all ids.contains) = true then some (renM ids m) else none) = some (.row (outerRow m (· + 2) w) 1 mm) := by
    rw [ho, Option.bind_some, okM_row hfl, idsM_row hfl, renM_rows hfl, outerRow_ids]
    have e1 : ((outerRow m f w).all fun c => c.all okIds) = true := by
      rw [List.all_eq_true]
      intro c hc
      obtain ⟨i, _, rfl⟩ := List.mem_map.1 hc
      rfl
    have e2 : ((List.range m).map f).all ids.contains = true := by
      rw [List.all_eq_true]
      intro x hx
      obtain ⟨i, hi, rfl⟩ := List.mem_map.1 hx
      simpa using hcon i (by simpa using hi)
    rw [e1, e2, Bool.and_self, if_pos rfl]
    congr 2
    rw [outerRow, outerRow, List.map_map]
    refine List.map_congr_left fun i hi => ?_
    simp only [Function.comp_apply, List.map_cons, List.map_nil, ren, ren1, hp i (by simpa using hi)]
  have gr : ∀ x ∈ (List.range m).map f, ((H[x]?).bind fun m => if (okM m && (idsM m).all ids.contains) = true then some (renM ids m) else none) = some (H[x]?.getD .dead) := by
    intro x hx
    obtain ⟨i, hi, rfl⟩ := List.mem_map.1 hx
    obtain ⟨h1, h2⟩ := hr i (by simpa using hi)
    rw [h1, Option.bind_some, okM_flat h2, idsM_flat h2, renM_flat h2]; rfl
  have hom : omap (fun i => (H[i]?).bind fun m => if (okM m && (idsM m).all ids.contains) = true then some (renM ids m) else none) ids = some (m0 :: .row (outerRow m (· + 2) w) 1 mm :: (List.range m).map rows) := by
    conv => lhs; arg 2; rw [← hI]
    rw [omap_cons', g0, Option.bind_some, omap_cons', go, Option.bind_some, omap_all gr]
    simp only [Option.bind_some, Option.map_some]
    congr 2
    rw [List.map_map]
    congr 1
    refine List.map_congr_left fun i hi => ?_
    rw [Function.comp_apply, (hr i (by simpa using hi)).1]; rfl
  rw [hom]; rfl
end Go.Am
