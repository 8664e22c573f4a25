/-
  Rules for calls, for what is built, for strings and maps.
-/
import Derived.Test.YtcclbkkgpcpikaaAm28
set_option linter.unusedSimpArgs false
set_option linter.unusedVariables false
namespace Go.Am

section
variable {P : Program} {h : Hints} {E : Ev} {H : List Mem} {ρ : Operand → Option PV}

/-! conversions and strings -/
noncomputable def cvInt (P : Program) (s d : TypeId) : Option IntKind := match P.underlying s, P.underlying d with
  | some _, some (.int k) => some k
  | _, _ => none
noncomputable def cvStr (P : Program) (s d : TypeId) : Nat := match P.underlying s, P.underlying d with
  | some _, some .string => 1
  | some .string, some (.slice e) => match P.underlying e with
    | some (.int .u8) => 2
    | _ => 0
  | _, _ => 0
theorem cv_int (s d : TypeId) (k : IntKind) (n : Int) : convPV P H s d (.int k n) = (cvInt P s d).map fun k => .int k (k.wrap n) := by
  unfold convPV cvInt
  cases P.underlying s with
  | none => cases P.underlying d <;> rfl
  | some x =>
    cases P.underlying d with
    | none => cases x <;> rfl
    | some y =>
      cases y with
      | string =>
        cases x with
        | slice e =>
          simp only [Option.map_none]
          cases P.underlying e with
          | none => rfl
          | some z => cases z <;> first
            | rfl
            | (rename_i k; cases k <;> rfl)
        | _ => rfl
      | slice e => cases x <;> rfl
      | _ => cases x <;> rfl
/-- A string as another. -/
noncomputable def cvS (s : ByteArray) : Nat → Option PV
  | 1 => some (.str s)
  | 2 => some (.lst (byteCells s))
  | _ => none
theorem cv_str (s d : TypeId) (x : ByteArray) : convPV P H s d (.str x) = cvS x (cvStr P s d) := by
  unfold convPV cvStr
  cases P.underlying s with
  | none => cases P.underlying d <;> rfl
  | some t =>
    cases P.underlying d with
    | none => cases t <;> rfl
    | some y =>
      cases y with
      | string => rfl
      | slice e =>
        cases t with
        | string =>
          simp only []
          cases P.underlying e with
          | none => rfl
          | some z => cases z <;> first
            | rfl
            | (rename_i k; cases k <;> rfl)
        | _ => rfl
      | _ => cases t <;> rfl
theorem cvS_1 (s : ByteArray) : cvS s 1 = some (.str s) := rfl
theorem cvS_2 (s : ByteArray) : cvS s 2 = some (.lst (byteCells s)) := rfl
noncomputable def strAt (s : ByteArray) (j : Int) : Option PV := if 0 ≤ j then (s.data.toList[j.toNat]?).map fun b => .int .u8 b.toNat else none
theorem idx_str (t : TypeId) (s : ByteArray) (k : IntKind) (j : Int) : indexPV P t (.str s) (.int k j) = if isStrT P t = true then strAt s j else none := by
  unfold indexPV isStrT strAt
  cases P.underlying t with
  | none => rfl
  | some d => cases d <;> rfl
theorem idx_agg (t : TypeId) (cs : List PV) (k : IntKind) (j : Int) : indexPV P t (.agg cs) (.int k j) = (arrOf P t).bind fun x => if 0 ≤ j ∧ j < x.1 then partOf P x.2.2 cs (j.toNat * x.2.1) else none := by
  unfold indexPV arrOf
  cases P.underlying t with
  | none => rfl
  | some d =>
    cases d with
    | array n e => simp only []; cases tsize P e <;> rfl
    | _ => rfl
theorem func_eq (f : FuncId) (a c : Array Operand) : aFunc ρ (.func f) a c = (omap ρ a.toList).bind fun a => (omap ρ c.toList).map fun c => .func f a c := rfl
theorem conv_lst (t e : TypeId) (x : PV) : True := trivial

/-! what is built -/
noncomputable def placeS (P : Program) (t : TypeId) (i : Nat) : Option (Nat × Nat) := (fieldAt P t i).bind fun x => (tsize P x.2).map fun n => (x.1, n)
noncomputable def structOk (P : Program) (t : TypeId) : Bool := match P.underlying t with
  | some (.struct fs) => (omap (fun f => tsize P f.type) fs.toList).isSome
  | _ => false
theorem build_struct {t : TypeId} (hs : structOk P t = true) (ps : List (Nat × PV)) : buildPV P t ps = (zcells P t).bind fun zero => (fillAgg (placeS P t) zero ps).map .agg := by
  unfold structOk at hs
  split at hs
  · rename_i fs hu
    unfold buildPV
    cases hz : zcells P t with
    | none => rfl
    | some zero =>
      simp only [Option.bind_some, hu]
      have hpl : (fun i => (fs[i]?).bind fun f => (tsize P f.type).map fun n => (f.offset, n)) = placeS P t := by
        funext i
        simp only [placeS, fieldAt, hu]
        cases fs[i]? <;> rfl
      rw [hpl]
      cases hf : fillAgg (placeS P t) zero ps with
      | none => rfl
      | some cs =>
        simp only [Option.bind_some, Option.map_some]
        cases ho : omap (fun f => tsize P f.type) fs.toList with
        | none => rw [ho] at hs; cases hs
        | some _ => rfl
  · cases hs
theorem build_array {t e : TypeId} {n z : Nat} (ha : arrOf P t = some (n, z, e)) (ps : List (Nat × PV)) : buildPV P t ps = (zcells P t).bind fun zero => (fillAgg (fun i => some (i * z, z)) zero ps).map .agg := by
  obtain ⟨hu, h2⟩ := arrOf_spec ha
  unfold buildPV
  cases zcells P t with
  | none => rfl
  | some zero => simp only [Option.bind_some, hu, h2]
theorem aBuild_eq (t : TypeId) (ps : Array (Nat × Operand)) : aBuild P ρ t ps = (partsOf ρ ps).bind fun q => buildPV P t q := rfl
theorem aBuildSlice_eq (base : Nat) (t : TypeId) (n : Nat) (ps : Array (Nat × Operand)) : aBuildSlice P base ρ t n ps = (partsOf ρ ps).bind fun q => (buildSliceM P t n q).map fun m => (.ref base 0 n n, [m], []) := rfl
/-- The parts of what is built. -/
noncomputable def partsL (ρ : Operand → Option PV) : List (Nat × Operand) → Option (List (Nat × PV))
  | [] => some []
  | x :: r => ((ρ x.2).bind noTup).bind fun v => (partsL ρ r).bind fun l => some ((x.1, v) :: l)
theorem parts_eq (ps : Array (Nat × Operand)) : partsOf ρ ps = partsL ρ ps.toList := by
  unfold partsOf
  induction ps.toList with
  | nil => rfl
  | cons x r ih =>
    rw [omap_cons', ih]
    simp only [partsL]
    cases (ρ x.2).bind noTup with
    | none => rfl
    | some v => simp only [Option.map_some, Option.bind_some]
theorem partsL_nil : partsL ρ [] = some [] := rfl
theorem partsL_cons (i : Nat) (x : Operand) (r : List (Nat × Operand)) : partsL ρ ((i, x) :: r) = ((ρ x).bind noTup).bind fun v => (partsL ρ r).bind fun l => some ((i, v) :: l) := rfl

/-! calls -/
/-- A call, by what the hints say of the function. -/
noncomputable def callD (h : Hints) (E : Ev) (f : FuncId) (args : List PV) (H : List Mem) : Bool → Bool → Bool → ResW
  | true, _, _ => E.rn f args H
  | false, true, _ => (omap (exp expFuel H) args).bind fun qs => (impCall E f qs H.length).map fun r => (r.1, freeze (bif r.2.2 then [] else args.flatMap (rch expFuel H)) H ++ r.2.1)
  | false, false, true => (omap (exp expFuel H) args).bind fun qs => (pureCall h E f qs).map fun q => (q, freeze (args.flatMap (rch expFuel H)) H)
  | false, false, false => (omap (exp expFuel H) args).bind fun qs => (pureCall h E f qs).bind fun q => if noMem q = true then some (q, H) else none
theorem call_eq (f : FuncId) (args : List PV) : callAny h E f args H = callD h E f args H (h.opn f) (h.imp f) (h.mem f) := by
  unfold callAny callC pureC impC
  cases h.opn f with
  | true => rfl
  | false =>
    simp only [Bool.false_eq_true, if_false]
    cases hi : h.imp f with
    | true =>
      simp only [cond_true, callD]
      generalize omap (exp expFuel H) args = x
      cases x with
      | none => rfl
      | some qs =>
        simp only [Option.bind_some]
        cases impCall E f qs H.length <;> rfl
    | false =>
      simp only [cond_false]
      cases hm : h.mem f with
      | true =>
        simp only [callD, if_true]
        generalize omap (exp expFuel H) args = x
        cases x with
        | none => rfl
        | some qs =>
          simp only [Option.bind_some]
          cases pureCall h E f qs with
          | none => rfl
          | some q => simp only [Option.bind_some, Option.map_some, List.append_nil]
      | false =>
        simp only [callD, Bool.false_eq_true, if_false]
        generalize omap (exp expFuel H) args = x
        cases x with
        | none => rfl
        | some qs =>
          simp only [Option.bind_some]
          cases pureCall h E f qs with
          | none => rfl
          | some q =>
            simp only [Option.bind_some]
            split <;> simp [freeze]
theorem callD_opn (f : FuncId) (args : List PV) (a b : Bool) : callD h E f args H true a b = E.rn f args H := rfl
theorem callD_imp (f : FuncId) (args : List PV) (b : Bool) : callD h E f args H false true b = (omap (exp expFuel H) args).bind fun qs => (impCall E f qs H.length).map fun r => (r.1, freeze (bif r.2.2 then [] else args.flatMap (rch expFuel H)) H ++ r.2.1) := rfl
theorem callD_mem (f : FuncId) (args : List PV) : callD h E f args H false false true = (omap (exp expFuel H) args).bind fun qs => (pureCall h E f qs).map fun q => (q, freeze (args.flatMap (rch expFuel H)) H) := rfl
theorem callD_pure (f : FuncId) (args : List PV) : callD h E f args H false false false = (omap (exp expFuel H) args).bind fun qs => (pureCall h E f qs).bind fun q => if noMem q = true then some (q, H) else none := rfl
theorem fact_call {f : FuncId} (hp : h.prim f = some factOf) : pureCall h E f [] = some (.bool true) := by
  simp only [pureCall, hp]; rfl
/-- What a call gives. -/
theorem pure_of {f : FuncId} {qs : List PV} {q : PV} (hp : h.prim f = none) (hr : Holds ((lim P h).rn f qs []) fun r => exp expFuel r.2 r.1 = some q) : pureCall h (lim P h) f qs = some q := by
  obtain ⟨r, h1, h2⟩ := hr
  simp only [pureCall, hp, h1, Option.bind_some]
  exact h2
theorem exp_int (k : IntKind) (n : Int) : exp expFuel H (.int k n) = some (.int k n) := rfl
theorem exp_bool (b : Bool) : exp expFuel H (.bool b) = some (.bool b) := rfl
theorem exp_str (s : ByteArray) : exp expFuel H (.str s) = some (.str s) := rfl
theorem exp_nils : exp expFuel H .nils = some .nils := rfl
theorem exp_nilp : exp expFuel H .nilp = some .nilp := rfl
theorem exp_nilf : exp expFuel H .nilf = some .nilf := rfl
theorem exp_lst (es : List (List PV)) : exp expFuel H (.lst es) = some (.lst es) := rfl
theorem exp_box (c : List PV) (r : Nat) : exp expFuel H (.box c r) = some (.box c r) := rfl
/-- A value that is its own content. -/
def Plain (v : PV) : Prop := ∀ n H, exp (n + 1) H v = some v
theorem plain_int (k : IntKind) (n : Int) : Plain (.int k n) := fun _ _ => rfl
theorem plain_bool (b : Bool) : Plain (.bool b) := fun _ _ => rfl
theorem plain_str (s : ByteArray) : Plain (.str s) := fun _ _ => rfl
theorem plain_nils : Plain .nils := fun _ _ => rfl
theorem plain_nilp : Plain .nilp := fun _ _ => rfl
theorem plain_lst (es : List (List PV)) : Plain (.lst es) := fun _ _ => rfl
theorem plain_box (c : List PV) (r : Nat) : Plain (.box c r) := fun _ _ => rfl
theorem Sl.plain {q : PV} {es : List (List PV)} (hq : Sl q es) : Plain q := by
  rcases hq with ⟨rfl, _⟩ | rfl
  · exact plain_nils
  · exact plain_lst _
theorem Plain.exp {v : PV} (hv : Plain v) : exp expFuel H v = some v := hv 39 H
theorem plains {n : Nat} : ∀ {cs : List PV}, (∀ c ∈ cs, Plain c) → omap (exp (n + 1) H) cs = some cs
  | [], _ => rfl
  | c :: cs, hc => by rw [omap_cons', hc c List.mem_cons_self n H, plains fun x hx => hc x (List.mem_cons_of_mem _ hx)]; rfl
theorem plainss {n : Nat} : ∀ {es : List (List PV)}, (∀ c ∈ es, ∀ x ∈ c, Plain x) → omap (omap (exp (n + 1) H)) es = some es
  | [], _ => rfl
  | c :: cs, hc => by rw [omap_cons', plains (hc c List.mem_cons_self), plainss fun x hx => hc x (List.mem_cons_of_mem _ hx)]; rfl
theorem exp_agg {cs : List PV} (hc : ∀ c ∈ cs, Plain c) : exp expFuel H (.agg cs) = some (.agg cs) := by
  show (omap (exp 39 H) cs).map PV.agg = _
  rw [plains hc]; rfl
theorem exp_tup (cs : List PV) : exp expFuel H (.tup cs) = (omap (exp 39 H) cs).map .tup := rfl
theorem exp_ptr {id i r : Nat} {es : List (List PV)} {z : Nat} {m : Bool} {c : List PV} (hH : H[id]? = some (.row es z m)) (hc : es[i]? = some c) (hp : ∀ x ∈ c, Plain x) : exp expFuel H (.ptr id i r) = some (.box c r) := by
  show (match H[id]? with | some (.row es _ _) => (es[i]?).bind fun c => (omap (exp 39 H) c).map fun q => PV.box q r | _ => none) = _
  rw [hH]
  simp only [hc, Option.bind_some, plains hp, Option.map_some]
/-- The content of a row. -/
noncomputable def rowC (n : Nat) (H : List Mem) (i l : Nat) : Option Mem → Option PV
  | some (.row es _ _) => if i + l ≤ es.length then (omap (omap (exp n H)) ((es.drop i).take l)).map .lst else none
  | _ => none
theorem exp_ref (n id i l m : Nat) : exp (n + 1) H (.ref id i l m) = rowC n H i l H[id]? := by
  show (match H[id]? with | some (.row es _ _) => if i + l ≤ es.length then (omap (omap (exp n H)) ((es.drop i).take l)).map PV.lst else none | _ => none) = _
  generalize H[id]? = x
  cases x with
  | none => rfl
  | some m => cases m <;> rfl
theorem exp_row {id l m z : Nat} {es : List (List PV)} {b : Bool} (hH : H[id]? = some (.row es z b)) (hl : es.length = l) (hp : ∀ c ∈ es, ∀ x ∈ c, Plain x) : exp expFuel H (.ref id 0 l m) = some (.lst es) := by
  show exp (39 + 1) H _ = _
  rw [exp_ref, hH]
  simp only [rowC, Nat.zero_add]
  rw [if_pos (by omega), List.drop_zero, List.take_of_length_le (by omega), plainss hp]
  rfl
theorem exp_func (f : FuncId) {a c : List PV} (ha : ∀ x ∈ a, Plain x) (hc : ∀ x ∈ c, Plain x) : exp expFuel H (.func f a c) = some (.func f a c) := by
  show ((omap (exp 39 H) a).bind fun a' => (omap (exp 39 H) c).map fun c' => PV.func f a' c') = _
  rw [plains ha, plains hc]; rfl
theorem noMem_int (k : IntKind) (n : Int) : noMem (.int k n) = true := rfl
theorem noMem_bool (b : Bool) : noMem (.bool b) = true := rfl
theorem noMem_str (s : ByteArray) : noMem (.str s) = true := rfl
theorem rch_int (k : IntKind) (n : Int) : rch expFuel H (.int k n) = [] := rfl
theorem rch_bool (b : Bool) : rch expFuel H (.bool b) = [] := rfl
theorem rch_str (s : ByteArray) : rch expFuel H (.str s) = [] := rfl
theorem rch_nils : rch expFuel H .nils = [] := rfl
theorem rch_lst (es : List (List PV)) : rch expFuel H (.lst es) = [] := rfl
theorem rch_box (c : List PV) (r : Nat) : rch expFuel H (.box c r) = [] := rfl
theorem Sl.rch {q : PV} {es : List (List PV)} (hq : Sl q es) : rch expFuel H q = [] := by
  rcases hq with ⟨rfl, _⟩ | rfl <;> rfl
theorem fm_nil {α β : Type} (f : α → List β) : List.flatMap f [] = [] := rfl
theorem fm_cons {α β : Type} (f : α → List β) (a : α) (l : List α) : List.flatMap f (a :: l) = f a ++ l.flatMap f := List.flatMap_cons

/-! maps with strings as keys -/
theorem wMap_some (t : TypeId) (id : Nat) (key : ByteArray) (v : PV) : wMap P H t (some (.map id)) (some (.str key)) (some v) = (strMap P t).bind fun _ => match H[id]? with
    | some (.map es) => (mapPut key v es).map fun es' => (.tup [], H.set id (.map es'))
    | _ => none := by
  unfold wMap
  cases strMap P t <;> rfl
theorem lookup_map (t : TypeId) (id : Nat) (key : ByteArray) (ok : Bool) : lookupPV P H t (.map id) (.str key) ok = (strMap P t).bind fun e => (mapOf H (.map id)).bind fun es => (mapFind key es).bind fun r => (zeroPV P e).bind fun zero =>
    some (if ok then .tup [r.getD zero, .bool r.isSome] else r.getD zero) := rfl
theorem makeMap_eq (base : Nat) (t : TypeId) : aMakeMap P base t none = (strMap P t).map fun _ => (.map base, [Mem.map []], []) := rfl
end
end Go.Am
