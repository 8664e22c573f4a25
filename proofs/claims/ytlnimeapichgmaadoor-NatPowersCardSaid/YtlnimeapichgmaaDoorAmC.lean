/-
  The evaluator of the model's code on plain values, with its soundness and its walking rules (part 3).
-/
import Derived.Test.YtlnimeapichgmaaDoorAmB
set_option linter.constructorNameAsVariable false
/-
  Rules for calls, for what is built, for strings and maps.
-/
set_option linter.unusedSimpArgs false
set_option linter.unusedVariables false
namespace Go.Am

section
variable {P : Program} {h : Hints} {E : Ev} {H : List Mem} {ρ : Operand → Option PV}

/-! conversions and strings -/
noncomputable def cvInt (P : Program) (s d : TypeId) : Option IntKind := match P.underlying s, P.underlying d with
  | some _, some (.int k) => some k
  | _, _ => none
noncomputable def cvStr (P : Program) (s d : TypeId) : Nat := match P.underlying s, P.underlying d with
  | some _, some .string => 1
  | some .string, some (.slice e) => match P.underlying e with
    | some (.int .u8) => 2
    | _ => 0
  | _, _ => 0
noncomputable def cvI (n : Int) (c : Option IntKind) (r : Option PV) : Option PV := match c with
  | some k => some (.int k (k.wrap n))
  | none => r
theorem cvI_some (n : Int) (k : IntKind) (r : Option PV) : cvI n (some k) r = some (.int k (k.wrap n)) := rfl
theorem cv_int_eq (s d : TypeId) (k : IntKind) (n : Int) : convPV P H s d (.int k n) = cvI n (cvInt P s d) (convPV P H s d (.int k n)) := by
  cases hc : cvInt P s d with
  | none => rfl
  | some k' =>
    rw [cvI_some]
    unfold cvInt at hc
    split at hc
    · rename_i h1 h2
      cases hc
      unfold convPV
      rw [h1, h2]
    · cases hc
theorem cv_int {s d : TypeId} {k' : IntKind} (hc : cvInt P s d = some k') (k : IntKind) (n : Int) : convPV P H s d (.int k n) = some (.int k' (k'.wrap n)) := by rw [cv_int_eq, hc, cvI_some]
theorem cv_chr {s d : TypeId} (hs : (P.underlying s).isSome = true) (hd : P.underlying d = some .string) (k : IntKind) {n : Int} (h0 : 0 ≤ n) (h1 : n < 128) : convPV P H s d (.int k n) = some (.str ⟨#[UInt8.ofNat n.toNat]⟩) := by
  unfold convPV
  obtain ⟨x, hx⟩ := Option.isSome_iff_exists.1 hs
  rw [hx, hd]
  cases x <;> simp [h0, h1]
/-- A string as another. -/
noncomputable def cvS (s : ByteArray) : Nat → Option PV
  | 1 => some (.str s)
  | 2 => some (.lst (byteCells s))
  | _ => none
theorem cv_str (s d : TypeId) (x : ByteArray) : convPV P H s d (.str x) = cvS x (cvStr P s d) := by
  unfold convPV cvStr
  cases P.underlying s with
  | none => cases P.underlying d <;> rfl
  | some t =>
    cases P.underlying d with
    | none => cases t <;> rfl
    | some y =>
      cases y with
      | string => rfl
      | slice e =>
        cases t with
        | string =>
          simp only []
          cases P.underlying e with
          | none => rfl
          | some z => cases z <;> first
            | rfl
            | (rename_i k; cases k <;> rfl)
        | _ => rfl
      | _ => cases t <;> rfl
theorem cvS_1 (s : ByteArray) : cvS s 1 = some (.str s) := rfl
theorem cvS_2 (s : ByteArray) : cvS s 2 = some (.lst (byteCells s)) := rfl
noncomputable def strAt (s : ByteArray) (j : Int) : Option PV := if 0 ≤ j then (s.data.toList[j.toNat]?).map fun b => .int .u8 b.toNat else none
theorem idx_str (t : TypeId) (s : ByteArray) (k : IntKind) (j : Int) : indexPV P t (.str s) (.int k j) = if isStrT P t = true then strAt s j else none := by
  unfold indexPV isStrT strAt
  cases P.underlying t with
  | none => rfl
  | some d => cases d <;> rfl
theorem idx_agg (t : TypeId) (cs : List PV) (k : IntKind) (j : Int) : indexPV P t (.agg cs) (.int k j) = (arrOf P t).bind fun x => if 0 ≤ j ∧ j < x.1 then partOf P x.2.2 cs (j.toNat * x.2.1) else none := by
  unfold indexPV arrOf
  cases P.underlying t with
  | none => rfl
  | some d =>
    cases d with
    | array n e => simp only []; cases tsize P e <;> rfl
    | _ => rfl
theorem func_eq (f : FuncId) (a c : Array Operand) : aFunc ρ (.func f) a c = (omap ρ a.toList).bind fun a => (omap ρ c.toList).map fun c => .func f a c := rfl
theorem conv_lst (t e : TypeId) (x : PV) : True := trivial

/-! what is built -/
noncomputable def placeS (P : Program) (t : TypeId) (i : Nat) : Option (Nat × Nat) := (fieldAt P t i).bind fun x => (tsize P x.2).map fun n => (x.1, n)
noncomputable def structOk (P : Program) (t : TypeId) : Bool := match P.underlying t with
  | some (.struct fs) => (omap (fun f => tsize P f.type) fs.toList).isSome
  | _ => false
theorem build_struct {t : TypeId} (hs : structOk P t = true) (ps : List (Nat × PV)) : buildPV P t ps = (zcells P t).bind fun zero => (fillAgg (placeS P t) zero ps).map .agg := by
  unfold structOk at hs
  split at hs
  · rename_i fs hu
    unfold buildPV
    cases hz : zcells P t with
    | none => rfl
    | some zero =>
      simp only [Option.bind_some, hu]
      have hpl : (fun i => (fs[i]?).bind fun f => (tsize P f.type).map fun n => (f.offset, n)) = placeS P t := by
        funext i
        simp only [placeS, fieldAt, hu]
        cases fs[i]? <;> rfl
      rw [hpl]
      cases hf : fillAgg (placeS P t) zero ps with
      | none => rfl
      | some cs =>
        simp only [Option.bind_some, Option.map_some]
        cases ho : omap (fun f => tsize P f.type) fs.toList with
        | none => rw [ho] at hs; cases hs
        | some _ => rfl
  · cases hs
theorem build_array {t e : TypeId} {n z : Nat} (ha : arrOf P t = some (n, z, e)) (ps : List (Nat × PV)) : buildPV P t ps = (zcells P t).bind fun zero => (fillAgg (fun i => some (i * z, z)) zero ps).map .agg := by
  obtain ⟨hu, h2⟩ := arrOf_spec ha
  unfold buildPV
  cases zcells P t with
  | none => rfl
  | some zero => simp only [Option.bind_some, hu, h2]
theorem aBuild_eq (t : TypeId) (ps : Array (Nat × Operand)) : aBuild P ρ t ps = (partsOf ρ ps).bind fun q => buildPV P t q := rfl
theorem aBuildSlice_eq (base : Nat) (t : TypeId) (n : Nat) (ps : Array (Nat × Operand)) : aBuildSlice P base ρ t n ps = (partsOf ρ ps).bind fun q => (buildSliceM P t n q).map fun m => (.ref base 0 n n, [m], []) := rfl
/-- The parts of what is built. -/
noncomputable def partsL (ρ : Operand → Option PV) : List (Nat × Operand) → Option (List (Nat × PV))
  | [] => some []
  | x :: r => ((ρ x.2).bind noTup).bind fun v => (partsL ρ r).bind fun l => some ((x.1, v) :: l)
theorem parts_eq (ps : Array (Nat × Operand)) : partsOf ρ ps = partsL ρ ps.toList := by
  unfold partsOf
  induction ps.toList with
  | nil => rfl
  | cons x r ih =>
    rw [omap_cons', ih]
    simp only [partsL]
    cases (ρ x.2).bind noTup with
    | none => rfl
    | some v => simp only [Option.map_some, Option.bind_some]
theorem partsL_nil : partsL ρ [] = some [] := rfl
theorem partsL_cons (i : Nat) (x : Operand) (r : List (Nat × Operand)) : partsL ρ ((i, x) :: r) = ((ρ x).bind noTup).bind fun v => (partsL ρ r).bind fun l => some ((i, v) :: l) := rfl

/-! calls -/
/-- A call, by what the hints say of the function. -/
noncomputable def callD (h : Hints) (E : Ev) (f : FuncId) (args : List PV) (H : List Mem) : Bool → Bool → Bool → ResW
  | true, _, _ => E.rn f args H
  | false, true, _ => (omap (exp expFuel H) args).bind fun qs => (impCall E f qs H.length).map fun r => (r.1, freeze (bif r.2.2 then [] else args.flatMap (rch expFuel H)) H ++ r.2.1)
  | false, false, true => (omap (exp expFuel H) args).bind fun qs => (pureCall h E f qs).map fun q => (q, freeze (args.flatMap (rch expFuel H)) H)
  | false, false, false => (omap (exp expFuel H) args).bind fun qs => (pureCall h E f qs).bind fun q => if noMem q = true then some (q, H) else none
theorem call_eq (f : FuncId) (args : List PV) : callAny h E f args H = callD h E f args H (h.opn f) (h.imp f) (h.mem f) := by
  unfold callAny callC pureC impC
  cases h.opn f with
  | true => rfl
  | false =>
    simp only [Bool.false_eq_true, if_false]
    cases hi : h.imp f with
    | true =>
      simp only [cond_true, callD]
      generalize omap (exp expFuel H) args = x
      cases x with
      | none => rfl
      | some qs =>
        simp only [Option.bind_some]
        cases impCall E f qs H.length <;> rfl
    | false =>
      simp only [cond_false]
      cases hm : h.mem f with
      | true =>
        simp only [callD, if_true]
        generalize omap (exp expFuel H) args = x
        cases x with
        | none => rfl
        | some qs =>
          simp only [Option.bind_some]
          cases pureCall h E f qs with
          | none => rfl
          | some q => simp only [Option.bind_some, Option.map_some, List.append_nil]
      | false =>
        simp only [callD, Bool.false_eq_true, if_false]
        generalize omap (exp expFuel H) args = x
        cases x with
        | none => rfl
        | some qs =>
          simp only [Option.bind_some]
          cases pureCall h E f qs with
          | none => rfl
          | some q =>
            simp only [Option.bind_some]
            split <;> simp [freeze]
theorem callD_opn (f : FuncId) (args : List PV) (a b : Bool) : callD h E f args H true a b = E.rn f args H := rfl
theorem callD_imp (f : FuncId) (args : List PV) (b : Bool) : callD h E f args H false true b = (omap (exp expFuel H) args).bind fun qs => (impCall E f qs H.length).map fun r => (r.1, freeze (bif r.2.2 then [] else args.flatMap (rch expFuel H)) H ++ r.2.1) := rfl
theorem callD_mem (f : FuncId) (args : List PV) : callD h E f args H false false true = (omap (exp expFuel H) args).bind fun qs => (pureCall h E f qs).map fun q => (q, freeze (args.flatMap (rch expFuel H)) H) := rfl
theorem callD_pure (f : FuncId) (args : List PV) : callD h E f args H false false false = (omap (exp expFuel H) args).bind fun qs => (pureCall h E f qs).bind fun q => if noMem q = true then some (q, H) else none := rfl
theorem fact_call {f : FuncId} (hp : h.prim f = some factOf) : pureCall h E f [] = some (.bool true) := by
  simp only [pureCall, hp]; rfl
/-- What a call gives. -/
theorem pure_of {f : FuncId} {qs : List PV} {q : PV} (hp : h.prim f = none) (hr : Holds ((lim P h).rn f qs []) fun r => exp expFuel r.2 r.1 = some q) : pureCall h (lim P h) f qs = some q := by
  obtain ⟨r, h1, h2⟩ := hr
  simp only [pureCall, hp, h1, Option.bind_some]
  exact h2
theorem exp_int (k : IntKind) (n : Int) : exp expFuel H (.int k n) = some (.int k n) := rfl
theorem exp_bool (b : Bool) : exp expFuel H (.bool b) = some (.bool b) := rfl
theorem exp_str (s : ByteArray) : exp expFuel H (.str s) = some (.str s) := rfl
theorem exp_nils : exp expFuel H .nils = some .nils := rfl
theorem exp_nilp : exp expFuel H .nilp = some .nilp := rfl
theorem exp_nilf : exp expFuel H .nilf = some .nilf := rfl
theorem exp_lst (es : List (List PV)) : exp expFuel H (.lst es) = some (.lst es) := rfl
theorem exp_box (c : List PV) (r : Nat) : exp expFuel H (.box c r) = some (.box c r) := rfl
/-- A value that is its own content. -/
def Plain (v : PV) : Prop := ∀ n H, exp (n + 1) H v = some v
theorem plain_int (k : IntKind) (n : Int) : Plain (.int k n) := fun _ _ => rfl
theorem plain_bool (b : Bool) : Plain (.bool b) := fun _ _ => rfl
theorem plain_str (s : ByteArray) : Plain (.str s) := fun _ _ => rfl
theorem plain_nils : Plain .nils := fun _ _ => rfl
theorem plain_nilp : Plain .nilp := fun _ _ => rfl
theorem plain_lst (es : List (List PV)) : Plain (.lst es) := fun _ _ => rfl
theorem plain_box (c : List PV) (r : Nat) : Plain (.box c r) := fun _ _ => rfl
theorem Sl.plain {q : PV} {es : List (List PV)} (hq : Sl q es) : Plain q := by
  rcases hq with ⟨rfl, _⟩ | rfl
  · exact plain_nils
  · exact plain_lst _
theorem Plain.exp {v : PV} (hv : Plain v) : exp expFuel H v = some v := hv 39 H
theorem plains {n : Nat} : ∀ {cs : List PV}, (∀ c ∈ cs, Plain c) → omap (exp (n + 1) H) cs = some cs
  | [], _ => rfl
  | c :: cs, hc => by rw [omap_cons', hc c List.mem_cons_self n H, plains fun x hx => hc x (List.mem_cons_of_mem _ hx)]; rfl
theorem plainss {n : Nat} : ∀ {es : List (List PV)}, (∀ c ∈ es, ∀ x ∈ c, Plain x) → omap (omap (exp (n + 1) H)) es = some es
  | [], _ => rfl
  | c :: cs, hc => by rw [omap_cons', plains (hc c List.mem_cons_self), plainss fun x hx => hc x (List.mem_cons_of_mem _ hx)]; rfl
theorem exp_agg {cs : List PV} (hc : ∀ c ∈ cs, Plain c) : exp expFuel H (.agg cs) = some (.agg cs) := by
  show (omap (exp 39 H) cs).map PV.agg = _
  rw [plains hc]; rfl
theorem exp_tup (cs : List PV) : exp expFuel H (.tup cs) = (omap (exp 39 H) cs).map .tup := rfl
theorem exp_ptr {id i r : Nat} {es : List (List PV)} {z : Nat} {m : Bool} {c : List PV} (hH : H[id]? = some (.row es z m)) (hc : es[i]? = some c) (hp : ∀ x ∈ c, Plain x) : exp expFuel H (.ptr id i r) = some (.box c r) := by
  show (match H[id]? with | some (.row es _ _) => (es[i]?).bind fun c => (omap (exp 39 H) c).map fun q => PV.box q r | _ => none) = _
  rw [hH]
  simp only [hc, Option.bind_some, plains hp, Option.map_some]
/-- The content of a row. -/
noncomputable def rowC (n : Nat) (H : List Mem) (i l : Nat) : Option Mem → Option PV
  | some (.row es _ _) => if i + l ≤ es.length then (omap (omap (exp n H)) ((es.drop i).take l)).map .lst else none
  | _ => none
theorem exp_ref (n id i l m : Nat) : exp (n + 1) H (.ref id i l m) = rowC n H i l H[id]? := by
  show (match H[id]? with | some (.row es _ _) => if i + l ≤ es.length then (omap (omap (exp n H)) ((es.drop i).take l)).map PV.lst else none | _ => none) = _
  generalize H[id]? = x
  cases x with
  | none => rfl
  | some m => cases m <;> rfl
theorem exp_row {id l m z : Nat} {es : List (List PV)} {b : Bool} (hH : H[id]? = some (.row es z b)) (hl : es.length = l) (hp : ∀ c ∈ es, ∀ x ∈ c, Plain x) : exp expFuel H (.ref id 0 l m) = some (.lst es) := by
  show exp (39 + 1) H _ = _
  rw [exp_ref, hH]
  simp only [rowC, Nat.zero_add]
  rw [if_pos (by omega), List.drop_zero, List.take_of_length_le (by omega), plainss hp]
  rfl
theorem exp_func (f : FuncId) {a c : List PV} (ha : ∀ x ∈ a, Plain x) (hc : ∀ x ∈ c, Plain x) : exp expFuel H (.func f a c) = some (.func f a c) := by
  show ((omap (exp 39 H) a).bind fun a' => (omap (exp 39 H) c).map fun c' => PV.func f a' c') = _
  rw [plains ha, plains hc]; rfl
theorem noMem_int (k : IntKind) (n : Int) : noMem (.int k n) = true := rfl
theorem noMem_bool (b : Bool) : noMem (.bool b) = true := rfl
theorem noMem_str (s : ByteArray) : noMem (.str s) = true := rfl
theorem rch_int (k : IntKind) (n : Int) : rch expFuel H (.int k n) = [] := rfl
theorem rch_bool (b : Bool) : rch expFuel H (.bool b) = [] := rfl
theorem rch_str (s : ByteArray) : rch expFuel H (.str s) = [] := rfl
theorem rch_nils : rch expFuel H .nils = [] := rfl
theorem rch_lst (es : List (List PV)) : rch expFuel H (.lst es) = [] := rfl
theorem rch_box (c : List PV) (r : Nat) : rch expFuel H (.box c r) = [] := rfl
theorem Sl.rch {q : PV} {es : List (List PV)} (hq : Sl q es) : rch expFuel H q = [] := by
  rcases hq with ⟨rfl, _⟩ | rfl <;> rfl
theorem fm_nil {α β : Type} (f : α → List β) : List.flatMap f [] = [] := rfl
theorem fm_cons {α β : Type} (f : α → List β) (a : α) (l : List α) : List.flatMap f (a :: l) = f a ++ l.flatMap f := List.flatMap_cons

/-! maps with strings as keys -/
theorem wMap_some (t : TypeId) (id : Nat) (key : ByteArray) (v : PV) : wMap P H t (some (.map id)) (some (.str key)) (some v) = (strMap P t).bind fun _ => match H[id]? with
    | some (.map es) => (mapPut key v es).map fun es' => (.tup [], H.set id (.map es'))
    | _ => none := by
  unfold wMap
  cases strMap P t <;> rfl
theorem lookup_map (t : TypeId) (id : Nat) (key : ByteArray) (ok : Bool) : lookupPV P H t (.map id) (.str key) ok = (strMap P t).bind fun e => (mapOf H (.map id)).bind fun es => (mapFind key es).bind fun r => (zeroPV P e).bind fun zero =>
    some (if ok then .tup [r.getD zero, .bool r.isSome] else r.getD zero) := rfl
theorem makeMap_eq (base : Nat) (t : TypeId) : aMakeMap P base t none = (strMap P t).map fun _ => (.map base, [Mem.map []], []) := rfl
end
end Go.Am

/-
  Rules for own memory numbered anew.
-/
set_option linter.unusedSimpArgs false
set_option linter.unusedVariables false
namespace Go.Am

section
variable {P : Program} {h : Hints} {E : Ev} {H : List Mem}

/-- Own memory numbered anew, the numbers kept given. -/
noncomputable def compactK (tm : List (Nat × PV)) (H : List Mem) (ids : List Nat) : Option St :=
  if tm.all (fun x => okIds x.2) = true then
    (omap (fun i => (H[i]?).bind fun m => if (okM m && (idsM m).all ids.contains) = true then some (renM ids m) else none) ids).map fun H' => ⟨tm.map fun x => (x.1, ren ids x.2), H'⟩
  else none
noncomputable def idsT (tm : List (Nat × PV)) : List Nat := (tm.flatMap fun x => idsOf x.2).foldl addNew []
noncomputable def closeStep (H : List Mem) (ids : List Nat) : List Nat := (ids.flatMap (idsAt H)).foldl addNew ids
theorem compact_run (tm : List (Nat × PV)) : compact tm H = compactK tm H (closeStep H (closeStep H (closeStep H (idsT tm)))) := rfl
noncomputable def idsO : Option Mem → List Nat
  | some m => idsM m
  | none => []
theorem idsAt_eq (i : Nat) : idsAt H i = idsO H[i]? := by
  unfold idsAt idsO
  cases H[i]? <;> rfl
theorem idsO_some (m : Mem) : idsO (some m) = idsM m := rfl
theorem idsM_flat {m : Mem} (hm : flatM m = true) : idsM m = [] := by simp [idsM, hm]
theorem okM_flat {m : Mem} (hm : flatM m = true) : okM m = true := by simp [okM, hm]
theorem renM_flat {m : Mem} (hm : flatM m = true) (l : List Nat) : renM l m = m := by simp [renM, hm]
theorem idsM_row {es : List (List PV)} {z : Nat} {m : Bool} (hm : flatM (.row es z m) = false) : idsM (.row es z m) = es.flatMap fun c => c.flatMap idsOf := by simp [idsM, hm]
theorem okM_row {es : List (List PV)} {z : Nat} {m : Bool} (hm : flatM (.row es z m) = false) : okM (.row es z m) = es.all fun c => c.all okIds := by simp [okM, hm]
theorem renM_rows {es : List (List PV)} {z : Nat} {m : Bool} (hm : flatM (.row es z m) = false) (l : List Nat) : renM l (.row es z m) = .row (es.map fun c => c.map (ren l)) z m := by simp [renM, hm]
theorem flatM_row (es : List (List PV)) (z : Nat) (m : Bool) : flatM (.row es z m) = es.all fun c => c.all noIds := rfl
theorem flatM_map (es : List (PV × PV)) : flatM (.map es) = es.all fun x => noIds x.1 && noIds x.2 := rfl
theorem flat_rows {es : List (List PV)} (he : ∀ c ∈ es, ∀ v ∈ c, noIds v = true) (z : Nat) (m : Bool) : flatM (.row es z m) = true := by
  rw [flatM_row, List.all_eq_true]
  exact fun c hc => List.all_eq_true.2 (he c hc)
theorem addNew_eq (l : List Nat) (i : Nat) : addNew l i = if i ∈ l then l else l ++ [i] := by
  unfold addNew
  by_cases hi : i ∈ l
  · rw [if_pos hi, if_pos (by simpa using hi)]
  · rw [if_neg hi, if_neg (by simpa using hi)]
theorem pos_cons (i j : Nat) (r : List Nat) : pos i (j :: r) = if i = j then 0 else pos i r + 1 := by
  show (bif Nat.beq i j then 0 else pos i r + 1) = _
  by_cases hij : i = j
  · subst hij; simp
  · have : Nat.beq i j = false := by
      cases hb : Nat.beq i j with
      | true => exact absurd (Nat.eq_of_beq_eq_true hb) hij
      | false => rfl
    rw [this, if_neg hij]; rfl
theorem ids_ref (id i n m : Nat) : idsOf (.ref id i n m) = [id] := rfl
theorem ids_ptr (id i r : Nat) : idsOf (.ptr id i r) = [id] := rfl
theorem ids_map (id : Nat) : idsOf (.map id) = [id] := rfl
theorem ids_int (k : IntKind) (n : Int) : idsOf (.int k n) = [] := rfl
theorem ids_bool (b : Bool) : idsOf (.bool b) = [] := rfl
theorem ids_str (s : ByteArray) : idsOf (.str s) = [] := rfl
theorem ids_nils : idsOf .nils = [] := rfl
theorem ids_nilp : idsOf .nilp = [] := rfl
theorem ids_nilf : idsOf .nilf = [] := rfl
theorem ids_lst (es : List (List PV)) : idsOf (.lst es) = [] := rfl
theorem ids_box (c : List PV) (r : Nat) : idsOf (.box c r) = [] := rfl
theorem ids_agg (cs : List PV) : idsOf (.agg cs) = cs.flatMap idsOf1 := rfl
theorem ids_func (f : FuncId) (a c : List PV) : idsOf (.func f a c) = a.flatMap idsOf1 ++ c.flatMap idsOf1 := rfl
theorem ids1_ref (id i n m : Nat) : idsOf1 (.ref id i n m) = [id] := rfl
theorem ids1_ptr (id i r : Nat) : idsOf1 (.ptr id i r) = [id] := rfl
theorem ids1_map (id : Nat) : idsOf1 (.map id) = [id] := rfl
theorem ids1_int (k : IntKind) (n : Int) : idsOf1 (.int k n) = [] := rfl
theorem ids1_bool (b : Bool) : idsOf1 (.bool b) = [] := rfl
theorem ids1_str (s : ByteArray) : idsOf1 (.str s) = [] := rfl
theorem ids1_nils : idsOf1 .nils = [] := rfl
theorem ids1_lst (es : List (List PV)) : idsOf1 (.lst es) = [] := rfl
theorem ids1_box (c : List PV) (r : Nat) : idsOf1 (.box c r) = [] := rfl
theorem ok_ref (id i n m : Nat) : okIds (.ref id i n m) = true := rfl
theorem ok_ptr (id i r : Nat) : okIds (.ptr id i r) = true := rfl
theorem ok_map (id : Nat) : okIds (.map id) = true := rfl
theorem ok_int (k : IntKind) (n : Int) : okIds (.int k n) = true := rfl
theorem ok_bool (b : Bool) : okIds (.bool b) = true := rfl
theorem ok_str (s : ByteArray) : okIds (.str s) = true := rfl
theorem ok_nils : okIds .nils = true := rfl
theorem ok_nilp : okIds .nilp = true := rfl
theorem ok_nilf : okIds .nilf = true := rfl
theorem ok_lst (es : List (List PV)) : okIds (.lst es) = true := rfl
theorem ok_box (c : List PV) (r : Nat) : okIds (.box c r) = true := rfl
theorem ok_agg (cs : List PV) : okIds (.agg cs) = cs.all okIds1 := rfl
theorem ok_func (f : FuncId) (a c : List PV) : okIds (.func f a c) = (a.all okIds1 && c.all okIds1) := rfl
theorem ok1_ref (id i n m : Nat) : okIds1 (.ref id i n m) = true := rfl
theorem ok1_ptr (id i r : Nat) : okIds1 (.ptr id i r) = true := rfl
theorem ok1_map (id : Nat) : okIds1 (.map id) = true := rfl
theorem ok1_int (k : IntKind) (n : Int) : okIds1 (.int k n) = true := rfl
theorem ok1_bool (b : Bool) : okIds1 (.bool b) = true := rfl
theorem ok1_str (s : ByteArray) : okIds1 (.str s) = true := rfl
theorem ok1_nils : okIds1 .nils = true := rfl
theorem ok1_lst (es : List (List PV)) : okIds1 (.lst es) = true := rfl
theorem ok1_box (c : List PV) (r : Nat) : okIds1 (.box c r) = true := rfl
theorem no_ref (id i n m : Nat) : noIds (.ref id i n m) = false := rfl
theorem no_ptr (id i r : Nat) : noIds (.ptr id i r) = false := rfl
theorem no_map (id : Nat) : noIds (.map id) = false := rfl
theorem no_int (k : IntKind) (n : Int) : noIds (.int k n) = true := rfl
theorem no_bool (b : Bool) : noIds (.bool b) = true := rfl
theorem no_str (s : ByteArray) : noIds (.str s) = true := rfl
theorem no_nils : noIds .nils = true := rfl
theorem no_nilp : noIds .nilp = true := rfl
theorem no_lst (es : List (List PV)) : noIds (.lst es) = true := rfl
theorem no_box (c : List PV) (r : Nat) : noIds (.box c r) = true := rfl
theorem ren_ref (l : List Nat) (id i n m : Nat) : ren l (.ref id i n m) = .ref (pos id l) i n m := rfl
theorem ren_ptr (l : List Nat) (id i r : Nat) : ren l (.ptr id i r) = .ptr (pos id l) i r := rfl
theorem ren_map (l : List Nat) (id : Nat) : ren l (.map id) = .map (pos id l) := rfl
theorem ren_int (l : List Nat) (k : IntKind) (n : Int) : ren l (.int k n) = .int k n := rfl
theorem ren_bool (l : List Nat) (b : Bool) : ren l (.bool b) = .bool b := rfl
theorem ren_str (l : List Nat) (s : ByteArray) : ren l (.str s) = .str s := rfl
theorem ren_nils (l : List Nat) : ren l .nils = .nils := rfl
theorem ren_nilp (l : List Nat) : ren l .nilp = .nilp := rfl
theorem ren_nilf (l : List Nat) : ren l .nilf = .nilf := rfl
theorem ren_lst (l : List Nat) (es : List (List PV)) : ren l (.lst es) = .lst es := rfl
theorem ren_box (l : List Nat) (c : List PV) (r : Nat) : ren l (.box c r) = .box c r := rfl
theorem ren_agg (l : List Nat) (cs : List PV) : ren l (.agg cs) = .agg (cs.map (ren1 l)) := rfl
theorem ren_func (l : List Nat) (f : FuncId) (a c : List PV) : ren l (.func f a c) = .func f (a.map (ren1 l)) (c.map (ren1 l)) := rfl
theorem ren1_ref (l : List Nat) (id i n m : Nat) : ren1 l (.ref id i n m) = .ref (pos id l) i n m := rfl
theorem ren1_ptr (l : List Nat) (id i r : Nat) : ren1 l (.ptr id i r) = .ptr (pos id l) i r := rfl
theorem ren1_map (l : List Nat) (id : Nat) : ren1 l (.map id) = .map (pos id l) := rfl
theorem ren1_int (l : List Nat) (k : IntKind) (n : Int) : ren1 l (.int k n) = .int k n := rfl
theorem ren1_bool (l : List Nat) (b : Bool) : ren1 l (.bool b) = .bool b := rfl
theorem ren1_str (l : List Nat) (s : ByteArray) : ren1 l (.str s) = .str s := rfl
theorem ren1_nils (l : List Nat) : ren1 l .nils = .nils := rfl
theorem ren1_lst (l : List Nat) (es : List (List PV)) : ren1 l (.lst es) = .lst es := rfl
theorem ren1_box (l : List Nat) (c : List PV) (r : Nat) : ren1 l (.box c r) = .box c r := rfl
/-- What a slice that came in is to numbers. -/
theorem Sl.ids {q : PV} {es : List (List PV)} (hq : Sl q es) : idsOf q = [] ∧ okIds q = true ∧ (∀ l, ren l q = q) ∧ idsOf1 q = [] ∧ okIds1 q = true ∧ (∀ l, ren1 l q = q) ∧ noIds q = true := by
  rcases hq with ⟨rfl, _⟩ | rfl <;> exact ⟨rfl, rfl, fun _ => rfl, rfl, rfl, fun _ => rfl, rfl⟩
theorem Flat.ids {v : PV} (hv : Flat v) : idsOf v = [] ∧ okIds v = true ∧ ∀ l, ren l v = v := hv
end
end Go.Am

/-
  What the evaluator's call gives, as a contract of the model: for walks in the kit's own calculus.
-/
set_option linter.unusedSimpArgs false
set_option linter.unusedVariables false
namespace Go.Am
open Go.RowKit
set_option linter.unusedSectionVars false
section
variable [Laid] {P : Program} {h : Hints} {E : Ev}
theorem pureCall_calls (hE : RnSound P E) (hP : PrimSound P h) {f : FuncId} {qs : List PV} {r : PV} (hr : pureCall h E f qs = some r) {S : Nat → Prop} {w : World} {vals : List Value}
    (hS : ∀ b, S b → b < w.heap.size) (hL : Laid.ok S w) (hv : LRel w S qs vals) :
    Calls P f vals.toArray w (fun e w' => ∃ u S2, e = .returned u ∧ Below w.heap.size w w' ∧ IRel w' S2 r u ∧ (∀ b, S2 b → b < w'.heap.size ∧ (b < w.heap.size → S b))) := by
  unfold pureCall at hr
  cases hp : h.prim f with
  | some g =>
    simp only [hp] at hr
    cases hg : g qs with
    | none => simp [hg] at hr
    | some v =>
      simp only [hg, Option.bind_some] at hr
      refine (hP f g hp qs v hg _ w vals hS hL hv).mono ?_
      rintro e w' ⟨u, rfl, hb, hir⟩
      have hst2 : ∀ b, (S b ∨ (w.heap.size ≤ b ∧ b < w'.heap.size)) → b < w'.heap.size :=
        fun b hb' => hb'.elim (fun h' => Nat.lt_of_lt_of_le (hS b h') hb.size) (fun h' => h'.2)
      have := (exp_sound (Inv.empty _ w' hst2 (Laid.mono _ _ _ _ (fun b hb' => ⟨.inl hb', hb.block b (hS b hb')⟩) hL)) [] expFuel v r u hr (IRel.toV _ _ hir) (by
        intro id hid; have := rch_lt expFuel v id hid; simp at this)).1
      refine ⟨u, _, rfl, hb, IRel.mono (fun b hb' => ⟨hb'.elim id (by rintro ⟨id, hid, _⟩; simp at hid), rfl⟩) _ _ this, fun b hb' => ⟨hst2 b hb', fun hlt => hb'.elim id (fun h' => by omega)⟩⟩
  | none =>
    simp only [hp] at hr
    cases hg : E.rn f qs [] with
    | none => simp [hg] at hr
    | some x =>
      obtain ⟨v, Hc⟩ := x
      simp only [hg, Option.bind_some] at hr
      refine (hE f qs [] v Hc hg _ _ w w.heap.size vals (Inv.empty _ w hS hL) (LRel_toV0 hv)).mono ?_
      rintro e w' ⟨u, φc, Sc, rfl, hIc, hev, hvr⟩
      have hx := (exp_sound hIc (rch expFuel Hc v) expFuel v r u hr hvr (fun _ hid => hid)).1
      refine ⟨u, _, rfl, hev.below, hx, ?_⟩
      rintro b (hb | ⟨id, _, l, hl, rfl⟩)
      · exact ⟨hIc.stable b hb, fun hlt => hev.old b hlt hb⟩
      · have := hIc.live id l hl
        exact ⟨this.2.1, fun hlt => by omega⟩
theorem calls_of_lim (hS : Static P h) (hP : PrimSound P h) {f : FuncId} {qs : List PV} {r : PV} (hr : pureCall h (lim P h) f qs = some r) {S : Nat → Prop} {w : World} {vals : List Value}
    (hst : ∀ b, S b → b < w.heap.size) (hL : Laid.ok S w) (hv : LRel w S qs vals) :
    Calls P f vals.toArray w (fun e w' => ∃ u S2, e = .returned u ∧ Below w.heap.size w w' ∧ IRel w' S2 r u ∧ (∀ b, S2 b → b < w'.heap.size ∧ (b < w.heap.size → S b))) := by
  cases hp : h.prim f with
  | some g =>
    have hr' : pureCall h (evalF P h 0) f qs = some r := by
      unfold pureCall at hr ⊢
      simp only [hp] at hr ⊢
      exact hr
    exact pureCall_calls (fun f args H v H' he => (evalF_sound hS hP 0).1.rn f args H v H' he) hP hr' hst hL hv
  | none =>
    have hr0 := hr
    unfold pureCall at hr0
    simp only [hp] at hr0
    cases hg : (lim P h).rn f qs [] with
    | none => simp [hg] at hr0
    | some x =>
      obtain ⟨n, hn⟩ := lim_evalF hg
      have hr' : pureCall h (evalF P h n) f qs = some r := by
        unfold pureCall
        simp only [hp, hn]
        simpa [hg] using hr0
      exact pureCall_calls (fun f args H v H' he => (evalF_sound hS hP n).1.rn f args H v H' he) hP hr' hst hL hv
end
end Go.Am

/-
  Hints with functions whose contracts were proved otherwise.
-/
set_option linter.unusedSimpArgs false
set_option linter.unusedVariables false
namespace Go.Am
set_option linter.unusedSectionVars false
section
variable [Laid] {P : Program} {h : Hints}
noncomputable def withPrims (h : Hints) (p : FuncId → Option (List PV → Option PV)) : Hints := { h with prim := p }
variable {p : FuncId → Option (List PV → Option PV)}
theorem firstW_prims (ls : List Nat) : ∀ (os : List Oper) (i : Nat), firstW (withPrims h p) ls os i = firstW h ls os i
  | [], _ => rfl
  | o :: os, i => by
    simp only [firstW, firstW_prims ls os]
    rfl
theorem drawOk_prims (ls : List Nat) (ops : Array Oper) : drawOk (withPrims h p) ls ops = drawOk h ls ops := by
  simp only [drawOk, firstW_prims]
theorem codeOk_prims (f : FuncId) : ∀ c : Code, codeOk (withPrims h p) f c = codeOk h f c
  | .region _ _ _ => by simp only [codeOk, drawOk_prims]; rfl
  | .seq a b => by simp only [codeOk, codeOk_prims f a, codeOk_prims f b]
  | .cond _ a b => by simp only [codeOk, codeOk_prims f a, codeOk_prims f b]
  | .block _ b => by simp only [codeOk, codeOk_prims f b]
  | .loop b => by simp only [codeOk, codeOk_prims f b]
  | .skip | .label _ | .exit _ | .ret | .goto _ | .refuse _ | .rangeFunc _ _ _ _ | .scope _ => rfl
theorem fnChk_prims (f : FuncId) : fnChk P (withPrims h p) f = fnChk P h f := by
  simp only [fnChk, codeOk_prims]
theorem prims_static (hS : Static P h) (hp : ∀ f, (p f).isSome = true → FnOk P f) : Static P (withPrims h p) :=
  ⟨hS.mixed, fun f hf => by rw [fnChk_prims]; exact hS.fns f hf, hp⟩
end
end Go.Am
