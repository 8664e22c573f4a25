/-
  One rule for each operation.
-/
import Derived.Test.YtcclbkkgpcpikaaAm27
import Derived.IntWalk
set_option linter.unusedSimpArgs false
set_option linter.unusedVariables false
namespace Go.Am

section
variable {P : Program} {h : Hints} {E : Ev} {H : List Mem} {ρ : Operand → Option PV} {N : Nat} {ds : List (Option Tmp)}

/-! rows of operations -/
theorem run_nil (s : St) : runOps P h E N ds [] s = some s := rfl
/-- What follows an operation. -/
noncomputable def runK (P : Program) (h : Hints) (E : Ev) (N : Nat) (ds : List (Option Tmp)) (dst : Option Tmp) (l : List Oper) (tm : List (Nat × PV)) (r : ResW) : Option St :=
  r.bind fun x => (putT N dst x.1 tm).bind fun tm' => runOps P h E N ds l ⟨tm', x.2⟩
/-- What follows a guard. -/
noncomputable def runG (P : Program) (h : Hints) (E : Ev) (N : Nat) (ds : List (Option Tmp)) (dst : Option Tmp) (op : Op) (l : List Oper) (tm : List (Nat × PV)) (H : List Mem) (g : Option Bool) : Option St :=
  g.bind fun b => bif b then runK P h E N ds dst l tm (opE P h E H (ev tm) op) else runK P h E N ds dst l tm (some (.tup [], H))
theorem run_op (dst : Option Tmp) (op : Op) (ty : TypeId) (pos : String) (after : Array Edge) (l : List Oper) (tm : List (Nat × PV)) :
    runOps P h E N ds (⟨dst, op, ty, pos, after, none⟩ :: l) ⟨tm, H⟩ = runK P h E N ds dst l tm (opE P h E H (ev tm) op) := by
  simp only [runOps, runK]
  congr 1
  funext x
  cases putT N dst x.1 tm <;> rfl
theorem run_guard (dst : Option Tmp) (op : Op) (ty : TypeId) (pos : String) (after : Array Edge) (j : Nat) (w : Bool) (l : List Oper) (tm : List (Nat × PV)) :
    runOps P h E N ds (⟨dst, op, ty, pos, after, some (j, w)⟩ :: l) ⟨tm, H⟩ = runG P h E N ds dst op l tm H (want ds tm j w) := by
  simp only [runOps, runG]
  congr 1
  funext b
  cases b with
  | false =>
    simp only [cond_false, runK, Option.bind_some]
    cases putT N dst (.tup []) tm <;> rfl
  | true =>
    simp only [cond_true, runK, Option.bind_assoc]
    congr 1
    funext x
    cases putT N dst x.1 tm <;> rfl
theorem runK_put {d : Nat} (hd : d < N) (l : List Oper) (tm : List (Nat × PV)) (v : PV) : runK P h E N ds (some d) l tm (some (v, H)) = runOps P h E N ds l ⟨(d, v) :: tm, H⟩ := by
  simp only [runK, putT, Option.bind_some, if_pos hd]
theorem runK_no (l : List Oper) (tm : List (Nat × PV)) (v : PV) : runK P h E N ds none l tm (some (v, H)) = runOps P h E N ds l ⟨tm, H⟩ := rfl
theorem runG_true (dst : Option Tmp) (op : Op) (l : List Oper) (tm : List (Nat × PV)) : runG P h E N ds dst op l tm H (some true) = runK P h E N ds dst l tm (opE P h E H (ev tm) op) := rfl
theorem runG_false (dst : Option Tmp) (op : Op) (l : List Oper) (tm : List (Nat × PV)) : runG P h E N ds dst op l tm H (some false) = runK P h E N ds dst l tm (some (.tup [], H)) := rfl
/-- The same, not run yet. -/
noncomputable def runGT (P : Program) (h : Hints) (E : Ev) (N : Nat) (ds : List (Option Tmp)) (dst : Option Tmp) (op : Op) (l : List Oper) (tm : List (Nat × PV)) (H : List Mem) : Option St := runK P h E N ds dst l tm (opE P h E H (ev tm) op)
noncomputable def runGF (P : Program) (h : Hints) (E : Ev) (N : Nat) (ds : List (Option Tmp)) (dst : Option Tmp) (l : List Oper) (tm : List (Nat × PV)) (H : List Mem) : Option St := runK P h E N ds dst l tm (some (.tup [], H))
theorem runG_bool (dst : Option Tmp) (op : Op) (l : List Oper) (tm : List (Nat × PV)) (b : Bool) : runG P h E N ds dst op l tm H (some b) = match b with | true => runGT P h E N ds dst op l tm H | false => runGF P h E N ds dst l tm H := by
  cases b <;> rfl
theorem runG_not (dst : Option Tmp) (op : Op) (l : List Oper) (tm : List (Nat × PV)) (b : Bool) : runG P h E N ds dst op l tm H (some (!b)) = match b with | true => runGF P h E N ds dst l tm H | false => runGT P h E N ds dst op l tm H := by
  cases b <;> rfl
theorem runGT_eq (dst : Option Tmp) (op : Op) (l : List Oper) (tm : List (Nat × PV)) : runGT P h E N ds dst op l tm H = runK P h E N ds dst l tm (opE P h E H (ev tm) op) := rfl
theorem runGF_eq (dst : Option Tmp) (l : List Oper) (tm : List (Nat × PV)) : runGF P h E N ds dst l tm H = runK P h E N ds dst l tm (some (.tup [], H)) := rfl
noncomputable def regOut : Option St → Option (Ex × St)
  | some s => some (.normal, s)
  | none => none
theorem regOut_some (s : St) : regOut (some s) = some (.normal, s) := rfl
theorem put_some {d : Nat} (hd : d < N) (v : PV) (tm : List (Nat × PV)) : putT N (some d) v tm = some ((d, v) :: tm) := if_pos hd
theorem put_none (v : PV) (tm : List (Nat × PV)) : putT N none v tm = some tm := rfl
/-- What a guard's operation says. -/
noncomputable def wantV (w : Bool) : Option PV → Option Bool
  | some (.bool b) => some (b == w)
  | some (.tup []) => some false
  | _ => none
theorem want_eq (j : Nat) (w : Bool) (tm : List (Nat × PV)) : want ds tm j w = wantV w (((ds[j]?).bind id).bind (get tm)) := by
  simp only [want]
  generalize ((ds[j]?).bind id).bind (get tm) = x
  cases x with
  | none => rfl
  | some v => cases v <;> first
    | rfl
    | (rename_i vs; cases vs <;> rfl)
theorem wantV_bool (w b : Bool) : wantV w (some (.bool b)) = some (b == w) := rfl
theorem wantV_tup (w : Bool) : wantV w (some (.tup [])) = some false := rfl
theorem beq_t (b : Bool) : (b == true) = b := by cases b <;> rfl
theorem beq_f (b : Bool) : (b == false) = !b := by cases b <;> rfl

/-! operands -/
theorem ev_tmp (tm : List (Nat × PV)) (t : Nat) : ev tm (.tmp t) = get tm t := rfl
theorem ev_const (tm : List (Nat × PV)) (v : Value) : ev tm (.const v) = ofVal v := rfl
theorem ev_func (tm : List (Nat × PV)) (f : FuncId) : ev tm (.func f) = some (.func f [] []) := rfl
theorem ofVal_bool (b : Bool) : ofVal (.bool b) = some (.bool b) := rfl
theorem ofVal_int (k : IntKind) (n : Int) : ofVal (.int k n) = some (.int k n) := rfl
theorem ofVal_str (s : ByteArray) : ofVal (.string s) = some (.str s) := rfl
theorem ofVal_nilp : ofVal (.pointer none) = some .nilp := rfl
theorem ofVal_nils : ofVal (.slice none 0 0) = some .nils := rfl
theorem ofVal_nilf : ofVal .nilFunc = some .nilf := rfl
theorem ofVal_nilm : ofVal (.map none) = some .nilm := rfl
theorem ofVal_agg (cs : Array Value) : ofVal (.agg cs) = (omap ofScal cs.toList).map .agg := rfl
theorem ofScal_bool (b : Bool) : ofScal (.bool b) = some (.bool b) := rfl
theorem ofScal_int (k : IntKind) (n : Int) : ofScal (.int k n) = some (.int k n) := rfl
theorem ofScal_str (s : ByteArray) : ofScal (.string s) = some (.str s) := rfl
theorem ofScal_nilp : ofScal (.pointer none) = some .nilp := rfl
theorem ofScal_nils : ofScal (.slice none 0 0) = some .nils := rfl

/-! operations -/
theorem out0_some (v : PV) : out0 H (some v) = some (v, H) := rfl
theorem outR_some (v : PV) (ms : List Mem) (fz : List Nat) : outR H (some (v, ms, fz)) = some (v, freeze fz H ++ ms) := rfl
theorem freeze_nil : freeze [] H = H := rfl
theorem e_move (x : Operand) : opE P h E H ρ (.move x) = out0 H (ρ x) := rfl
theorem e_assign (x : Operand) : opE P h E H ρ (.assign x) = out0 H (ρ x) := rfl
theorem e_pick (c a b : Operand) : opE P h E H ρ (.pick c a b) = out0 H (aPick ρ c a b) := rfl
theorem e_alloc (t : TypeId) : opE P h E H ρ (.alloc t) = outR H (aAlloc P H.length t) := rfl
theorem e_box (t : TypeId) (x : Operand) : opE P h E H ρ (.box t x) = outR H (aBox H.length (ρ x)) := rfl
theorem e_build (t : TypeId) (ps : Array (Nat × Operand)) : opE P h E H ρ (.build t ps) = out0 H (aBuild P ρ t ps) := rfl
theorem e_buildSlice (t : TypeId) (n : Nat) (ps : Array (Nat × Operand)) : opE P h E H ρ (.buildSlice t n ps) = outR H (aBuildSlice P H.length ρ t n ps) := rfl
theorem e_load (t : TypeId) (a : Operand) : opE P h E H ρ (.load t a) = out0 H (aLoad P H t (ρ a)) := rfl
theorem e_nilCheck (x : Operand) : opE P h E H ρ (.nilCheck x) = out0 H (aNilCheck (ρ x)) := rfl
theorem e_bin (op : BinOp) (t : TypeId) (x y : Operand) (t' : TypeId) : opE P h E H ρ (.binOp op t x y t') = out0 H (aBin P op t (ρ x) (ρ y)) := rfl
theorem e_un (op : UnOp) (t : TypeId) (x : Operand) : opE P h E H ρ (.unOp op t x) = out0 H (aUn op (ρ x)) := rfl
theorem e_conv (s d : TypeId) (x : Operand) : opE P h E H ρ (.convert s d x) = out0 H (aConv P H s d (ρ x)) := rfl
theorem e_func (fn : Fn) (a c : Array Operand) : opE P h E H ρ (.makeFunc fn a c) = out0 H (aFunc ρ fn a c) := rfl
theorem e_makeMap (t : TypeId) (r : Option Operand) : opE P h E H ρ (.makeMap t r) = outR H (aMakeMap P H.length t r) := rfl
theorem e_makeSlice (t : TypeId) (l c : Operand) : opE P h E H ρ (.makeSlice t l c) = outR H (aMakeSlice P H.length t (ρ l) (ρ c)) := rfl
theorem e_slice (t : TypeId) (x : Operand) (lo hi mx : Option Operand) : opE P h E H ρ (.slice t x lo hi mx) = out0 H (aSlice P H ρ t x lo hi mx) := rfl
theorem e_fieldAddr (s : TypeId) (x : Operand) (f : Nat) : opE P h E H ρ (.fieldAddr s x f) = out0 H (aFieldAddr P s (ρ x) f) := rfl
theorem e_field (s : TypeId) (x : Operand) (f : Nat) : opE P h E H ρ (.field s x f) = out0 H (aField P s (ρ x) f) := rfl
theorem e_indexAddr (t : TypeId) (x i : Operand) : opE P h E H ρ (.indexAddr t x i) = out0 H (aIndexAddr P H t (ρ x) (ρ i)) := rfl
theorem e_index (t : TypeId) (x i : Operand) : opE P h E H ρ (.index t x i) = out0 H (aIndex P t (ρ x) (ρ i)) := rfl
theorem e_lookup (t : TypeId) (x k : Operand) (ok : Bool) : opE P h E H ρ (.lookup t x k ok) = out0 H (aLookup P H t (ρ x) (ρ k) ok) := rfl
theorem e_extract (x : Operand) (i : Nat) : opE P h E H ρ (.extract x i) = out0 H (aExtract (ρ x) i) := rfl
theorem e_store (t : TypeId) (a x : Operand) : opE P h E H ρ (.store t a x) = wStore P H t (ρ a) (ρ x) := rfl
theorem e_mapUpdate (t : TypeId) (m k x : Operand) : opE P h E H ρ (.mapUpdate t m k x) = wMap P H t (ρ m) (ρ k) (ρ x) := rfl
theorem e_insert (t : TypeId) (m k x : Operand) : opE P h E H ρ (.insert t m k x) = wMap P H t (ρ m) (ρ k) (ρ x) := rfl
theorem e_len (args : Array Operand) (ts : Array TypeId) : opE P h E H ρ (.call ⟨.builtin .len, args, ts⟩) = out0 H ((omap ρ args.toList).bind fun vs => builtinR P H .len ts vs) := rfl
theorem e_min (args : Array Operand) (ts : Array TypeId) : opE P h E H ρ (.call ⟨.builtin .min, args, ts⟩) = out0 H ((omap ρ args.toList).bind fun vs => builtinR P H .min ts vs) := rfl
theorem e_max (args : Array Operand) (ts : Array TypeId) : opE P h E H ρ (.call ⟨.builtin .max, args, ts⟩) = out0 H ((omap ρ args.toList).bind fun vs => builtinR P H .max ts vs) := rfl
theorem e_append (args : Array Operand) (ts : Array TypeId) : opE P h E H ρ (.call ⟨.builtin .append, args, ts⟩) = (omap ρ args.toList).bind fun vs => match vs with | [s, x] => appendF P h H ts s x | _ => none := rfl
theorem e_copy (args : Array Operand) (ts : Array TypeId) : opE P h E H ρ (.call ⟨.builtin .copy, args, ts⟩) = (omap ρ args.toList).bind fun vs => match vs with | [s, x] => copyH P H ts s x | _ => none := rfl
theorem e_clear (args : Array Operand) (ts : Array TypeId) : opE P h E H ρ (.call ⟨.builtin .clear, args, ts⟩) = (omap ρ args.toList).bind fun vs => match vs with | [s] => clearH P H ts s | _ => none := rfl
/-- A call of a named function. -/
theorem e_call (f : FuncId) (args : Array Operand) (ts : Array TypeId) : opE P h E H ρ (.call ⟨.value (.func f), args, ts⟩) = (omap ρ args.toList).bind fun vs => callAny h E f vs H := by
  show (if h.opn f then wOpen h E H ρ f ⟨.value (.func f), args, ts⟩ else outR H (aCallC h E H H.length ρ f ⟨.value (.func f), args, ts⟩)) = _
  cases ho : h.opn f with
  | true => rfl
  | false =>
    simp only [Bool.false_eq_true, if_false, aCallC, ho, callAny]
    cases omap ρ args.toList with
    | none => rfl
    | some vs => rfl
/-- A call of a value. -/
theorem e_dyn (t : Tmp) (args : Array Operand) (ts : Array TypeId) : opE P h E H ρ (.call ⟨.value (.tmp t), args, ts⟩) = (ρ (.tmp t)).bind fun fv => match fv with
      | .func f first caps => (omap ρ args.toList).bind fun vs => callAny h E f (first ++ vs ++ caps) H
      | _ => none := rfl
theorem len_one (ts : Array TypeId) (x : PV) : builtinR P H .len ts [x] = (ts[0]?).bind fun t => lenPV P H t x := rfl
theorem bin_some (op : BinOp) (t : TypeId) (a b : PV) : aBin P op t (some a) (some b) = binPV P op t a b := rfl
theorem un_some (op : UnOp) (a : PV) : aUn op (some a) = unPV op a := rfl
theorem conv_some (s d : TypeId) (a : PV) : aConv P H s d (some a) = convPV P H s d a := rfl
theorem load_some (t : TypeId) (a : PV) : aLoad P H t (some a) = loadPV P H t a := rfl
theorem nilCheck_ptr (id i r : Nat) : aNilCheck (some (.ptr id i r)) = some (.ptr id i r) := rfl
theorem nilCheck_box (c : List PV) (r : Nat) : aNilCheck (some (.box c r)) = some (.box c r) := rfl
theorem nilCheck_func (f : FuncId) (a c : List PV) : aNilCheck (some (.func f a c)) = some (.func f a c) := rfl
theorem fieldAddr_some (s : TypeId) (v : PV) (f : Nat) : aFieldAddr P s (some v) f = fieldAddrPV P s v f := rfl
theorem field_some (s : TypeId) (v : PV) (f : Nat) : aField P s (some v) f = fieldPV P s v f := rfl
theorem indexAddr_some (t : TypeId) (v j : PV) : aIndexAddr P H t (some v) (some j) = indexAddrPV P H t v j := rfl
theorem index_some (t : TypeId) (v j : PV) : aIndex P t (some v) (some j) = indexPV P t v j := rfl
theorem lookup_some (t : TypeId) (v j : PV) (ok : Bool) : aLookup P H t (some v) (some j) ok = lookupPV P H t v j ok := rfl
theorem extract_some (vs : List PV) (i : Nat) : aExtract (some (.tup vs)) i = vs[i]? := rfl
theorem pick_some (c a b : Operand) (t : Bool) (hc : ρ c = some (.bool t)) : aPick ρ c a b = if t = true then ρ a else ρ b := by
  simp only [aPick, hc, Option.bind_some]
theorem pick_eq (c a b : Operand) : aPick ρ c a b = (ρ c).bind fun t => match t with | .bool t => if t = true then ρ a else ρ b | _ => none := rfl
/-- One of two. -/
noncomputable def pickV : Option PV → Option PV → Option PV → Option PV
  | some (.bool true), x, _ => x
  | some (.bool false), _, y => y
  | _, _, _ => none
theorem pick_V (c a b : Operand) : aPick ρ c a b = pickV (ρ c) (ρ a) (ρ b) := by
  rw [pick_eq]
  cases ρ c with
  | none => rfl
  | some v => cases v <;> first
    | rfl
    | (rename_i t; cases t <;> rfl)
theorem pickV_true (x y : Option PV) : pickV (some (.bool true)) x y = x := rfl
theorem pickV_false (x y : Option PV) : pickV (some (.bool false)) x y = y := rfl
theorem pickV_bool (b : Bool) (x y : Option PV) : pickV (some (.bool b)) x y = match b with | true => x | false => y := by cases b <;> rfl
theorem pickV_not (b : Bool) (x y : Option PV) : pickV (some (.bool (!b))) x y = match b with | true => y | false => x := by cases b <;> rfl
theorem store_some (t : TypeId) (p v : PV) : wStore P H t (some p) (some v) = (noTup v).bind fun v => (storeH P H t p v).map fun H' => (.tup [], H') := rfl
theorem noTup_int (k : IntKind) (n : Int) : noTup (.int k n) = some (.int k n) := rfl
theorem noTup_bool (b : Bool) : noTup (.bool b) = some (.bool b) := rfl
theorem noTup_str (s : ByteArray) : noTup (.str s) = some (.str s) := rfl
theorem noTup_agg (c : List PV) : noTup (.agg c) = some (.agg c) := rfl
theorem noTup_lst (c : List (List PV)) : noTup (.lst c) = some (.lst c) := rfl
theorem noTup_ref (a b c d : Nat) : noTup (.ref a b c d) = some (.ref a b c d) := rfl
theorem noTup_ptr (a b c : Nat) : noTup (.ptr a b c) = some (.ptr a b c) := rfl
theorem noTup_nils : noTup .nils = some .nils := rfl
theorem noTup_nilp : noTup .nilp = some .nilp := rfl
theorem noTup_map (a : Nat) : noTup (.map a) = some (.map a) := rfl
theorem noTup_func (f : FuncId) (a b : List PV) : noTup (.func f a b) = some (.func f a b) := rfl
theorem cells_int (k : IntKind) (n : Int) : cellsOf (.int k n) = [.int k n] := rfl
theorem cells_bool (b : Bool) : cellsOf (.bool b) = [.bool b] := rfl
theorem cells_str (s : ByteArray) : cellsOf (.str s) = [.str s] := rfl
theorem cells_agg (c : List PV) : cellsOf (.agg c) = c := rfl
theorem cells_lst (c : List (List PV)) : cellsOf (.lst c) = [.lst c] := rfl
theorem cells_ref (a b c d : Nat) : cellsOf (.ref a b c d) = [.ref a b c d] := rfl
theorem cells_nils : cellsOf .nils = [.nils] := rfl
theorem cells_map (a : Nat) : cellsOf (.map a) = [.map a] := rfl
theorem cells_func (f : FuncId) (a b : List PV) : cellsOf (.func f a b) = [.func f a b] := rfl

/-! numbers -/
theorem bin_int (op : BinOp) (t : TypeId) (k k' : IntKind) (a b : Int) : binPV P op t (.int k a) (.int k' b) = intBin op k a k' b := rfl
theorem i_add (k : IntKind) (a b : Int) : intBin .add k a k b = some (.int k (k.wrap (a + b))) := if_pos rfl
theorem i_sub (k : IntKind) (a b : Int) : intBin .sub k a k b = some (.int k (k.wrap (a - b))) := if_pos rfl
theorem i_mul (k : IntKind) (a b : Int) : intBin .mul k a k b = some (.int k (k.wrap (a * b))) := if_pos rfl
theorem i_quo (k : IntKind) (a b : Int) : intBin .quo k a k b = if b = 0 then none else some (.int k (k.wrap (a.tdiv b))) := if_pos rfl
theorem i_rem (k : IntKind) (a b : Int) : intBin .rem k a k b = if b = 0 then none else some (.int k (a.tmod b)) := if_pos rfl
theorem i_eql (k : IntKind) (a b : Int) : intBin .eql k a k b = some (.bool (decide (a = b))) := by
  show (if k = k then some (PV.bool (a == b)) else none) = _
  rw [if_pos rfl]; rfl
theorem i_neq (k : IntKind) (a b : Int) : intBin .neq k a k b = some (.bool (!decide (a = b))) := by
  show (if k = k then some (PV.bool (a != b)) else none) = _
  rw [if_pos rfl]; rfl
theorem i_lss (k : IntKind) (a b : Int) : intBin .lss k a k b = some (.bool (decide (a < b))) := if_pos rfl
theorem i_leq (k : IntKind) (a b : Int) : intBin .leq k a k b = some (.bool (decide (a ≤ b))) := if_pos rfl
theorem i_gtr (k : IntKind) (a b : Int) : intBin .gtr k a k b = some (.bool (decide (b < a))) := if_pos rfl
theorem i_geq (k : IntKind) (a b : Int) : intBin .geq k a k b = some (.bool (decide (b ≤ a))) := if_pos rfl
theorem bin_str (op : BinOp) (t : TypeId) (a b : ByteArray) : binPV P op t (.str a) (.str b) = strBin op a b := rfl
theorem s_eql (a b : ByteArray) : strBin .eql a b = some (.bool (a.data.toList == b.data.toList)) := rfl
theorem s_neq (a b : ByteArray) : strBin .neq a b = some (.bool (!(a.data.toList == b.data.toList))) := rfl
theorem bin_bool (op : BinOp) (t : TypeId) (a b : Bool) : binPV P op t (.bool a) (.bool b) = if isBoolT P t then eqOp op (a == b) else none := rfl
theorem eq_eql (r : Bool) : eqOp .eql r = some (.bool r) := rfl
theorem eq_neq (r : Bool) : eqOp .neq r = some (.bool (!r)) := rfl
theorem un_neg (k : IntKind) (n : Int) : unPV .neg (.int k n) = some (.int k (k.wrap (0 - n))) := rfl
theorem un_not (b : Bool) : unPV .not (.bool b) = some (.bool (!b)) := rfl

theorem wrap64 {x : Int} (h1 : -9223372036854775808 ≤ x) (h2 : x ≤ 9223372036854775807) : IntKind.i64.wrap x = x := by
  rw [IntKind.wrap_i64]; omega

/-! what a type is -/
noncomputable def slZ (P : Program) (t : TypeId) : Option Nat := (telem P t).bind (tsize P)
noncomputable def arrOf (P : Program) (t : TypeId) : Option (Nat × Nat × TypeId) :=
  match P.underlying t with
  | some (.array n e) => (tsize P e).map fun z => (n, z, e)
  | _ => none
noncomputable def isStrT (P : Program) (t : TypeId) : Bool := match P.underlying t with | some .string => true | _ => false
theorem slZ_spec {t : TypeId} {z : Nat} (hz : slZ P t = some z) : ∃ e, P.underlying t = some (.slice e) ∧ tsize P e = some z := by
  unfold slZ at hz
  obtain ⟨e, h1, h2⟩ := bind1 hz
  exact ⟨e, telem_spec h1, h2⟩
theorem arrOf_spec {t e : TypeId} {n z : Nat} (ha : arrOf P t = some (n, z, e)) : P.underlying t = some (.array n e) ∧ tsize P e = some z := by
  unfold arrOf at ha
  split at ha
  · rename_i hu
    obtain ⟨z', h1, h2⟩ := map1 ha
    simp only [Prod.mk.injEq] at h2
    obtain ⟨rfl, rfl, rfl⟩ := h2
    exact ⟨hu, h1⟩
  · cases ha
theorem isStrT_spec {t : TypeId} (hs : isStrT P t = true) : P.underlying t = some .string := by
  unfold isStrT at hs
  split at hs
  · assumption
  · cases hs
theorem len_sl {q : PV} {es : List (List PV)} (hq : Sl q es) {t : TypeId} {z : Nat} (hz : slZ P t = some z) : lenPV P H t q = some (.int .i64 es.length) := by
  obtain ⟨e, hu, _⟩ := slZ_spec hz
  exact hq.len hu H
theorem len_ref {t : TypeId} {z : Nat} (hz : slZ P t = some z) (id i n m : Nat) : lenPV P H t (.ref id i n m) = some (.int .i64 n) := by
  obtain ⟨e, hu, _⟩ := slZ_spec hz
  simp [lenPV, hu]
theorem len_nils {t : TypeId} {z : Nat} (hz : slZ P t = some z) : lenPV P H t .nils = some (.int .i64 0) := by
  obtain ⟨e, hu, _⟩ := slZ_spec hz
  simp [lenPV, hu]
theorem len_lst {t : TypeId} {z : Nat} (hz : slZ P t = some z) (es : List (List PV)) : lenPV P H t (.lst es) = some (.int .i64 es.length) := by
  obtain ⟨e, hu, _⟩ := slZ_spec hz
  simp [lenPV, hu]
theorem len_str {t : TypeId} (hs : isStrT P t = true) (s : ByteArray) : lenPV P H t (.str s) = some (.int .i64 s.size) := by
  simp [lenPV, isStrT_spec hs]
theorem index_sl {q : PV} {es : List (List PV)} (hq : Sl q es) {t : TypeId} {z : Nat} (hz : slZ P t = some z) {k : IntKind} {j : Int} {c : List PV} (h0 : 0 ≤ j) (hc : es[j.toNat]? = some c) (hcz : c.length = z) :
    indexAddrPV P H t q (.int k j) = some (.box c 0) := by
  obtain ⟨e, hu, h2⟩ := slZ_spec hz
  have := (List.getElem?_eq_some_iff.1 hc).1
  exact hq.index hu h2 H h0 (by omega) hc hcz
theorem index_ref {t : TypeId} {z : Nat} (hz : slZ P t = some z) {k : IntKind} {j : Int} {id i n m : Nat} {es : List (List PV)} {mm : Bool} (hH : H[id]? = some (.row es z mm)) (h0 : 0 ≤ j) (hj : j < n) :
    indexAddrPV P H t (.ref id i n m) (.int k j) = some (.ptr id (i + j.toNat) 0) := by
  obtain ⟨e, hu, h2⟩ := slZ_spec hz
  simp only [indexAddrPV, hu, h2, Option.bind_some]
  rw [if_pos ⟨h0, hj⟩, hH]
  simp
theorem index_aptr {t e : TypeId} {n z : Nat} (ha : arrOf P t = some (n, z, e)) {k : IntKind} {j : Int} (h0 : 0 ≤ j) (hj : j < n) (id i r : Nat) : indexAddrPV P H t (.ptr id i r) (.int k j) = some (.ptr id i (r + j.toNat * z)) := by
  obtain ⟨hu, h2⟩ := arrOf_spec ha
  simp only [indexAddrPV, hu, h2, Option.bind_some]
  rw [if_pos ⟨h0, hj⟩]
theorem index_abox {t e : TypeId} {n z : Nat} (ha : arrOf P t = some (n, z, e)) {k : IntKind} {j : Int} (h0 : 0 ≤ j) (hj : j < n) (cs : List PV) (r : Nat) : indexAddrPV P H t (.box cs r) (.int k j) = some (.box cs (r + j.toNat * z)) := by
  obtain ⟨hu, h2⟩ := arrOf_spec ha
  simp only [indexAddrPV, hu, h2, Option.bind_some]
  rw [if_pos ⟨h0, hj⟩]
theorem load_box (t : TypeId) (cs : List PV) (r : Nat) : loadPV P H t (.box cs r) = partOf P t cs r := rfl
theorem load_ptr {t : TypeId} {id i r : Nat} {es : List (List PV)} {z : Nat} {m : Bool} {c : List PV} (hH : H[id]? = some (.row es z m)) (hc : es[i]? = some c) : loadPV P H t (.ptr id i r) = partOf P t c r := by
  simp [loadPV, hH, hc]
theorem part_one {t : TypeId} (ht : tagg P t = some false) (cs : List PV) (off : Nat) : partOf P t cs off = cs[off]? := by
  simp [partOf, ht]
theorem part_agg {t : TypeId} {n : Nat} (ht : tagg P t = some true) (hn : tsize P t = some n) (cs : List PV) (off : Nat) (hle : off + n ≤ cs.length) : partOf P t cs off = some (.agg ((cs.drop off).take n)) := by
  simp only [partOf, ht, hn, Option.bind_some]
  rw [if_pos hle]
theorem store_at {t : TypeId} {n : Nat} (hn : tsize P t = some n) {id i r z : Nat} {es : List (List PV)} {c : List PV} (v : PV) (hH : H[id]? = some (.row es z true)) (hc : es[i]? = some c) (hv : (cellsOf v).length = n) (hr : r + n ≤ c.length) :
    storeH P H t (.ptr id i r) v = some (H.set id (.row (es.set i (splice c r (cellsOf v))) z true)) := by
  simp only [storeH, hH, hc, hn, Option.bind_some]
  rw [if_pos ⟨hv, hr⟩]
theorem fieldAddr_ptr {s ft : TypeId} {f off n : Nat} (hf : fieldAt P s f = some (off, ft)) (hn : tsize P ft = some (n + 1)) (id i r : Nat) : fieldAddrPV P s (.ptr id i r) f = some (.ptr id i (r + off)) := by
  simp [fieldAddrPV, hf, hn]
theorem fieldAddr_box {s ft : TypeId} {f off n : Nat} (hf : fieldAt P s f = some (off, ft)) (hn : tsize P ft = some (n + 1)) (cs : List PV) (r : Nat) : fieldAddrPV P s (.box cs r) f = some (.box cs (r + off)) := by
  simp [fieldAddrPV, hf, hn]
theorem field_agg {s ft : TypeId} {f off : Nat} (hf : fieldAt P s f = some (off, ft)) (cs : List PV) : fieldPV P s (.agg cs) f = partOf P ft cs off := by
  simp [fieldPV, hf]

/-! the same as equations -/
theorem idx_ptr (t : TypeId) (id i r : Nat) (k : IntKind) (j : Int) : indexAddrPV P H t (.ptr id i r) (.int k j) = (arrOf P t).bind fun x => if 0 ≤ j ∧ j < x.1 then some (.ptr id i (r + j.toNat * x.2.1)) else none := by
  unfold indexAddrPV arrOf
  cases P.underlying t with
  | none => rfl
  | some d =>
    cases d <;> try rfl
    rename_i n e
    simp only []
    cases tsize P e <;> rfl
theorem idx_box (t : TypeId) (cs : List PV) (r : Nat) (k : IntKind) (j : Int) : indexAddrPV P H t (.box cs r) (.int k j) = (arrOf P t).bind fun x => if 0 ≤ j ∧ j < x.1 then some (.box cs (r + j.toNat * x.2.1)) else none := by
  unfold indexAddrPV arrOf
  cases P.underlying t with
  | none => rfl
  | some d =>
    cases d <;> try rfl
    rename_i n e
    simp only []
    cases tsize P e <;> rfl
/-- The place of an element of an own row. -/
noncomputable def rowPtr (z : Nat) (id i : Nat) : Option Mem → Option PV
  | some (.row _ z' _) => if z' = z then some (.ptr id i 0) else none
  | _ => none
theorem rowPtr_row (z id i : Nat) (es : List (List PV)) (z' : Nat) (m : Bool) : rowPtr z id i (some (.row es z' m)) = if z' = z then some (.ptr id i 0) else none := rfl
theorem idx_ref (t : TypeId) (id i n m : Nat) (k : IntKind) (j : Int) : indexAddrPV P H t (.ref id i n m) (.int k j) = (slZ P t).bind fun z => if 0 ≤ j ∧ j < n then rowPtr z id (i + j.toNat) H[id]? else none := by
  unfold indexAddrPV slZ telem
  cases P.underlying t with
  | none => rfl
  | some d =>
    cases d with
    | slice e =>
      simp only [Option.bind_some]
      cases tsize P e with
      | none => rfl
      | some z =>
        simp only [Option.bind_some]
        split
        · generalize H[id]? = x
          cases x with
          | none => rfl
          | some m => cases m <;> rfl
        · rfl
    | _ => rfl
theorem idx_lst (t : TypeId) (es : List (List PV)) (k : IntKind) (j : Int) : indexAddrPV P H t (.lst es) (.int k j) = (slZ P t).bind fun z => if 0 ≤ j ∧ j < es.length then (es[j.toNat]?).bind fun c => if c.length = z then some (.box c 0) else none else none := by
  unfold indexAddrPV slZ telem
  cases P.underlying t with
  | none => rfl
  | some d => cases d <;> rfl
/-- A cell of an own row. -/
noncomputable def rowCell (i : Nat) : Option Mem → Option (List PV)
  | some (.row es _ _) => es[i]?
  | _ => none
theorem rowCell_row (i : Nat) (es : List (List PV)) (z : Nat) (m : Bool) : rowCell i (some (.row es z m)) = es[i]? := rfl
theorem load_p (t : TypeId) (id i r : Nat) : loadPV P H t (.ptr id i r) = (rowCell i H[id]?).bind fun c => partOf P t c r := by
  unfold loadPV
  simp only []
  generalize H[id]? = x
  cases x with
  | none => rfl
  | some m => cases m <;> rfl
/-- An own row with a part written anew. -/
noncomputable def rowSet (i r n : Nat) (cs : List PV) : Option Mem → Option Mem
  | some (.row es z true) => (es[i]?).bind fun c => if cs.length = n ∧ r + n ≤ c.length then some (.row (es.set i (splice c r cs)) z true) else none
  | _ => none
theorem rowSet_row (i r n : Nat) (cs : List PV) (es : List (List PV)) (z : Nat) : rowSet i r n cs (some (.row es z true)) = (es[i]?).bind fun c => if cs.length = n ∧ r + n ≤ c.length then some (.row (es.set i (splice c r cs)) z true) else none := rfl
theorem store_p (t : TypeId) (id i r : Nat) (v : PV) : storeH P H t (.ptr id i r) v = (tsize P t).bind fun n => (rowSet i r n (cellsOf v) H[id]?).map fun m => H.set id m := by
  unfold storeH
  simp only []
  cases tsize P t with
  | none =>
    cases H[id]? with
    | none => rfl
    | some m =>
      cases m with
      | row es z b => cases b <;> first
        | rfl
        | (simp only []; cases es[i]? <;> rfl)
      | map _ => rfl
      | dead => rfl
  | some n =>
    simp only [Option.bind_some]
    cases H[id]? with
    | none => rfl
    | some m =>
      cases m with
      | row es z b =>
        cases b with
        | false => rfl
        | true =>
          simp only [rowSet]
          cases es[i]? with
          | none => rfl
          | some c =>
            simp only [Option.bind_some]
            split <;> rfl
      | map _ => rfl
      | dead => rfl
theorem fa_ptr (s : TypeId) (id i r f : Nat) : fieldAddrPV P s (.ptr id i r) f = (fieldAt P s f).bind fun x => match tsize P x.2 with | some (_ + 1) => some (.ptr id i (r + x.1)) | _ => none := by
  unfold fieldAddrPV
  cases fieldAt P s f with
  | none => rfl
  | some x =>
    simp only [Option.bind_some]
    cases tsize P x.2 with
    | none => rfl
    | some n => cases n <;> rfl
theorem fa_box (s : TypeId) (cs : List PV) (r f : Nat) : fieldAddrPV P s (.box cs r) f = (fieldAt P s f).bind fun x => match tsize P x.2 with | some (_ + 1) => some (.box cs (r + x.1)) | _ => none := by
  unfold fieldAddrPV
  cases fieldAt P s f with
  | none => rfl
  | some x =>
    simp only [Option.bind_some]
    cases tsize P x.2 with
    | none => rfl
    | some n => cases n <;> rfl
theorem fld_agg (s : TypeId) (cs : List PV) (f : Nat) : fieldPV P s (.agg cs) f = (fieldAt P s f).bind fun x => partOf P x.2 cs x.1 := rfl
theorem part_eq (t : TypeId) (cs : List PV) (off : Nat) : partOf P t cs off = match tagg P t with
  | some true => (tsize P t).bind fun n => if off + n ≤ cs.length then some (.agg ((cs.drop off).take n)) else none
  | some false => cs[off]?
  | none => none := rfl
theorem alloc_eq (base : Nat) (t : TypeId) : aAlloc P base t = (zcells P t).map fun cs => (.ptr base 0 0, [Mem.row [cs] cs.length true], []) := rfl
theorem box_some (base : Nat) (v : PV) : aBox base (some v) = (noTup v).map fun v => (.ptr base 0 0, [Mem.row [cellsOf v] (cellsOf v).length true], []) := rfl

/-! control -/
theorem x_skip (c : Cx) (s : St) : exS P h E c .skip s = some (.normal, s) := rfl
theorem x_label (c : Cx) (l : Nat) (s : St) : exS P h E c (.label l) s = some (.normal, s) := rfl
theorem x_seq (c : Cx) (a b : Code) (s : St) : exS P h E c (.seq a b) s = (exS P h E c a s).bind (seqOut (exS P h E c b)) := rfl
theorem x_exit (c : Cx) (i : Nat) (s : St) : exS P h E c (.exit i) s = some (.exit i, s) := rfl
theorem x_ret (c : Cx) (s : St) : exS P h E c .ret s = some (.ret, s) := rfl
theorem x_loop (c : Cx) (b : Code) (s : St) : exS P h E c (.loop b) s = E.ex c (.loop b) s := rfl
theorem x_cond (c : Cx) (x : Operand) (a b : Code) (s : St) : exS P h E c (.cond x a b) s = (ev s.tm x).bind (condOut (exS P h E c a s) (exS P h E c b s)) := rfl
theorem x_block (c : Cx) (i : Nat) (b : Code) (s : St) : exS P h E c (.block i b) s = (exS P h E c b s).bind (blockOut (h.keepB c.fid i) i c) := rfl
/-- Light operations. -/
noncomputable def runL (P : Program) (h : Hints) (E : Ev) (N : Nat) (ls : List Nat) : List Oper → Nat → List (Oper × List (Nat × PV) × PV) → St → Option St
  | [], _, _, s => some s
  | ⟨dst, op, ty, pos, after, none⟩ :: l, i, acc, s => bif has i ls
    then (lightOp P h E s.hp (ev s.tm) ⟨dst, op, ty, pos, after, none⟩).bind fun v => (putT N dst v s.tm).bind fun tm => runL P h E N ls l (i + 1) ((⟨dst, op, ty, pos, after, none⟩, s.tm, v) :: acc) ⟨tm, s.hp⟩
    else (opE P h E s.hp (ev s.tm) op).bind fun x => (putT N dst x.1 s.tm).bind fun tm => (again P h E acc x.2).bind fun _ => runL P h E N ls l (i + 1) acc ⟨tm, x.2⟩
  | _ :: _, _, _, _ => none
noncomputable def noG : List Oper → Bool
  | [] => true
  | ⟨_, _, _, _, _, none⟩ :: l => noG l
  | _ :: _ => false
theorem noG_nil : noG [] = true := rfl
theorem noG_cons (dst : Option Tmp) (op : Op) (ty : TypeId) (pos : String) (after : Array Edge) (l : List Oper) : noG (⟨dst, op, ty, pos, after, none⟩ :: l) = noG l := rfl
theorem runL_eq (N : Nat) (ops : Array Oper) (ls : List Nat) : ∀ (l : List Oper) (i : Nat) (acc : List (Oper × List (Nat × PV) × PV)) (s : St), noG l = true → stepOpsL P h E N ops ls l i acc s = runL P h E N ls l i acc s
  | [], _, _, s, _ => rfl
  | ⟨dst, op, ty, pos, after, some g⟩ :: l, i, acc, s, hg => by cases hg
  | ⟨dst, op, ty, pos, after, none⟩ :: l, i, acc, s, hg => by
    show (stepE P h E N ops ls i ⟨dst, op, ty, pos, after, none⟩ s).bind (fun s' => bif has i ls then (addL P h E ops ⟨dst, op, ty, pos, after, none⟩ s acc).bind fun acc' => stepOpsL P h E N ops ls l (i + 1) acc' s' else (again P h E acc s'.hp).bind fun _ => stepOpsL P h E N ops ls l (i + 1) acc s') = _
    have ih := fun j acc s => runL_eq N ops ls l j acc s hg
    cases hi : has i ls with
    | true =>
      simp only [runL, stepE, hi, cond_true, stepL, wants, Option.bind_some, addL]
      cases hlo : lightOp P h E s.hp (ev s.tm) ⟨dst, op, ty, pos, after, none⟩ with
      | none => rfl
      | some v =>
        simp only [Option.bind_some, Option.map_some]
        cases putT N dst v s.tm with
        | none => rfl
        | some tm => simp only [Option.map_some, Option.bind_some]; exact ih _ _ _
    | false =>
      simp only [runL, stepE, hi, cond_false, stepOp, wants, Option.bind_some, opA_op, cond_true]
      cases opE P h E s.hp (ev s.tm) op with
      | none => rfl
      | some x =>
        simp only [Option.bind_some]
        cases putT N dst x.1 s.tm with
        | none => rfl
        | some tm =>
          simp only [Option.map_some, Option.bind_some]
          cases again P h E acc x.2 with
          | none => rfl
          | some _ => simp only [Option.bind_some]; exact ih _ _ _
/-- The same, with what the model answers. -/
noncomputable def regL (P : Program) (h : Hints) (E : Ev) (N : Nat) (ls : List Nat) (ops : Array Oper) (s : St) : Option St := regA P h E N ls ops s
theorem regL_nil (N : Nat) (ops : Array Oper) (s : St) : regL P h E N [] ops s = runOps P h E N (ops.toList.map (·.dst)) ops.toList s := regA_run N ops s
theorem regL_cons (N : Nat) (j : Nat) (ls : List Nat) (ops : Array Oper) (s : St) (hg : noG ops.toList = true) : regL P h E N (j :: ls) ops s = runL P h E N (j :: ls) ops.toList 0 [] s := runL_eq N ops _ _ _ _ _ hg
theorem x_region (c : Cx) (i : Nat) (ops : Array Oper) (d : Bool) (s : St) : exS P h E c (.region i ops d) s = regOut (regL P h E c.N (h.light c.fid i) ops s) := by
  show (regA P h E c.N (h.light c.fid i) ops s).map _ = _
  show _ = regOut (regA P h E c.N (h.light c.fid i) ops s)
  cases regA P h E c.N (h.light c.fid i) ops s <;> rfl
theorem has_nil (i : Nat) : has i [] = false := rfl
theorem has_cons (i j : Nat) (l : List Nat) : has i (j :: l) = bif Nat.beq i j then true else has i l := rfl
theorem runL_nil (ls : List Nat) (N i : Nat) (acc : List (Oper × List (Nat × PV) × PV)) (s : St) : runL P h E N ls [] i acc s = some s := rfl
noncomputable def runLA (P : Program) (h : Hints) (E : Ev) (N : Nat) (ls : List Nat) (l : List Oper) (i : Nat) (acc : List (Oper × List (Nat × PV) × PV)) (s : St) : Option Unit → Option St
  | some _ => runL P h E N ls l i acc s
  | none => none
noncomputable def runLK (P : Program) (h : Hints) (E : Ev) (N : Nat) (ls : List Nat) (dst : Option Tmp) (l : List Oper) (i : Nat) (acc : List (Oper × List (Nat × PV) × PV)) (tm : List (Nat × PV)) : ResW → Option St
  | some x => (putT N dst x.1 tm).bind fun tm' => runLA P h E N ls l (i + 1) acc ⟨tm', x.2⟩ (again P h E acc x.2)
  | none => none
noncomputable def runLL (P : Program) (h : Hints) (E : Ev) (N : Nat) (ls : List Nat) (dst : Option Tmp) (o : Oper) (l : List Oper) (i : Nat) (acc : List (Oper × List (Nat × PV) × PV)) (tm : List (Nat × PV)) (H : List Mem) : Option PV → Option St
  | some v => (putT N dst v tm).bind fun tm' => runL P h E N ls l (i + 1) ((o, tm, v) :: acc) ⟨tm', H⟩
  | none => none
theorem runL_heavy (ls : List Nat) (N : Nat) (dst : Option Tmp) (op : Op) (ty : TypeId) (pos : String) (after : Array Edge) (l : List Oper) (i : Nat) (acc : List (Oper × List (Nat × PV) × PV)) (tm : List (Nat × PV)) (H : List Mem) (hi : has i ls = false) : runL P h E N ls (⟨dst, op, ty, pos, after, none⟩ :: l) i acc ⟨tm, H⟩ = runLK P h E N ls dst l i acc tm (opE P h E H (ev tm) op) := by
  simp only [runL, hi, cond_false]
  cases opE P h E H (ev tm) op with
  | none => rfl
  | some x =>
    simp only [Option.bind_some, runLK]
    congr 1
    funext tm'
    cases again P h E acc x.2 <;> rfl
theorem runL_light (ls : List Nat) (N : Nat) (dst : Option Tmp) (op : Op) (ty : TypeId) (pos : String) (after : Array Edge) (l : List Oper) (i : Nat) (acc : List (Oper × List (Nat × PV) × PV)) (tm : List (Nat × PV)) (H : List Mem) (hi : has i ls = true) : runL P h E N ls (⟨dst, op, ty, pos, after, none⟩ :: l) i acc ⟨tm, H⟩ = runLL P h E N ls dst ⟨dst, op, ty, pos, after, none⟩ l i acc tm H (lightOp P h E H (ev tm) ⟨dst, op, ty, pos, after, none⟩) := by
  simp only [runL, hi, cond_true]
  cases lightOp P h E H (ev tm) ⟨dst, op, ty, pos, after, none⟩ with
  | none => rfl
  | some v => rfl
theorem runLK_put (ls : List Nat) {N d : Nat} (hd : d < N) (l : List Oper) (i : Nat) (acc : List (Oper × List (Nat × PV) × PV)) (tm : List (Nat × PV)) (v : PV) (H : List Mem) : runLK P h E N ls (some d) l i acc tm (some (v, H)) = runLA P h E N ls l (i + 1) acc ⟨(d, v) :: tm, H⟩ (again P h E acc H) := by
  simp only [runLK, putT, if_pos hd, Option.bind_some]
theorem runLK_no (ls : List Nat) (N : Nat) (l : List Oper) (i : Nat) (acc : List (Oper × List (Nat × PV) × PV)) (tm : List (Nat × PV)) (v : PV) (H : List Mem) : runLK P h E N ls none l i acc tm (some (v, H)) = runLA P h E N ls l (i + 1) acc ⟨tm, H⟩ (again P h E acc H) := rfl
theorem runLA_some (ls : List Nat) (N : Nat) (l : List Oper) (i : Nat) (acc : List (Oper × List (Nat × PV) × PV)) (s : St) (u : Unit) : runLA P h E N ls l i acc s (some u) = runL P h E N ls l i acc s := rfl
theorem runLL_put (ls : List Nat) {N d : Nat} (hd : d < N) (o : Oper) (l : List Oper) (i : Nat) (acc : List (Oper × List (Nat × PV) × PV)) (tm : List (Nat × PV)) (v : PV) (H : List Mem) : runLL P h E N ls (some d) o l i acc tm H (some v) = runL P h E N ls l (i + 1) ((o, tm, v) :: acc) ⟨(d, v) :: tm, H⟩ := by
  simp only [runLL, putT, if_pos hd, Option.bind_some]
theorem again_nil (H : List Mem) : again P h E [] H = some () := rfl
noncomputable def againK (P : Program) (h : Hints) (E : Ev) (acc : List (Oper × List (Nat × PV) × PV)) (H : List Mem) (v : PV) : Option PV → Option Unit
  | some u => bif samePV u v then again P h E acc H else none
  | none => none
theorem again_cons (o : Oper) (tm : List (Nat × PV)) (v : PV) (acc : List (Oper × List (Nat × PV) × PV)) (H : List Mem) : again P h E ((o, tm, v) :: acc) H = againK P h E acc H v (lightOp P h E H (ev tm) o) := by
  show (lightOp P h E H (ev tm) o).bind (fun u => bif samePV u v then again P h E acc H else none) = _
  cases lightOp P h E H (ev tm) o <;> rfl
theorem againK_some (acc : List (Oper × List (Nat × PV) × PV)) (H : List Mem) (u v : PV) (hs : samePV u v = true) : againK P h E acc H v (some u) = again P h E acc H := by
  simp only [againK, hs, cond_true]
theorem val_light (v : Option PV) : ((val v).bind fun x => match x with | (v, [], []) => some v | _ => none) = v := by cases v <;> rfl
section
variable (dst : Option Tmp) (ty : TypeId) (pos : String) (after : Array Edge) (g : Option (Nat × Bool))
theorem light_load (t : TypeId) (a : Operand) : lightOp P h E H ρ ⟨dst, .load t a, ty, pos, after, g⟩ = aLoad P H t (ρ a) := val_light _
theorem light_indexAddr (t : TypeId) (x i : Operand) : lightOp P h E H ρ ⟨dst, .indexAddr t x i, ty, pos, after, g⟩ = aIndexAddr P H t (ρ x) (ρ i) := val_light _
theorem light_fieldAddr (t : TypeId) (x : Operand) (f : Nat) : lightOp P h E H ρ ⟨dst, .fieldAddr t x f, ty, pos, after, g⟩ = aFieldAddr P t (ρ x) f := val_light _
theorem light_move (x : Operand) : lightOp P h E H ρ ⟨dst, .move x, ty, pos, after, g⟩ = ρ x := val_light _
theorem light_nilCheck (x : Operand) : lightOp P h E H ρ ⟨dst, .nilCheck x, ty, pos, after, g⟩ = aNilCheck (ρ x) := val_light _
end
theorem same_int (k : IntKind) (a : Int) : samePV (.int k a) (.int k a) = true := by simp [samePV]
theorem same_bool (a : Bool) : samePV (.bool a) (.bool a) = true := by simp [samePV]
theorem same_ref (a b c d : Nat) : samePV (.ref a b c d) (.ref a b c d) = true := by simp [samePV]
theorem same_ptr (a b c : Nat) : samePV (.ptr a b c) (.ptr a b c) = true := by simp [samePV]
theorem same_nils : samePV .nils .nils = true := rfl
theorem same_nilp : samePV .nilp .nilp = true := rfl
theorem seqOut_normal (f : St → Option (Ex × St)) (s : St) : seqOut f (.normal, s) = f s := rfl
theorem seqOut_exit (f : St → Option (Ex × St)) (j : Nat) (s : St) : seqOut f (.exit j, s) = some (.exit j, s) := rfl
theorem seqOut_ret (f : St → Option (Ex × St)) (s : St) : seqOut f (.ret, s) = some (.ret, s) := rfl
/-- Code, not run yet. -/
noncomputable def exH (P : Program) (h : Hints) (E : Ev) (c : Cx) (code : Code) (s : St) : Option (Ex × St) := exS P h E c code s
theorem exH_eq (c : Cx) (code : Code) (s : St) : exH P h E c code s = exS P h E c code s := rfl
noncomputable def condK (P : Program) (h : Hints) (E : Ev) (c : Cx) (a b : Code) (s : St) : Option PV → Option (Ex × St)
  | some (.bool true) => exS P h E c a s
  | some (.bool false) => exS P h E c b s
  | _ => none
theorem x_condK (c : Cx) (x : Operand) (a b : Code) (s : St) : exS P h E c (.cond x a b) s = condK P h E c a b s (ev s.tm x) := by
  show (ev s.tm x).bind (condOut (exS P h E c a s) (exS P h E c b s)) = _
  cases ev s.tm x with
  | none => rfl
  | some v => cases v <;> first
    | rfl
    | (rename_i b; cases b <;> rfl)
theorem condK_true (c : Cx) (a b : Code) (s : St) : condK P h E c a b s (some (.bool true)) = exS P h E c a s := rfl
theorem condK_false (c : Cx) (a b : Code) (s : St) : condK P h E c a b s (some (.bool false)) = exS P h E c b s := rfl
theorem condK_bool (c : Cx) (a b : Code) (s : St) (t : Bool) : condK P h E c a b s (some (.bool t)) = match t with | true => exH P h E c a s | false => exH P h E c b s := by cases t <;> rfl
theorem condK_not (c : Cx) (a b : Code) (s : St) (t : Bool) : condK P h E c a b s (some (.bool (!t))) = match t with | true => exH P h E c b s | false => exH P h E c a s := by cases t <;> rfl
theorem condOut_bool (x y : Option (Ex × St)) (b : Bool) : condOut x y (.bool b) = if b = true then x else y := by cases b <;> rfl
theorem blockOut_normal (k : Option (List Nat × Bool)) (i : Nat) (c : Cx) (s : St) : blockOut k i c (.normal, s) = (maskK k c s).bind fun s' => some (.normal, s') := by
  show (maskK k c s).map _ = _
  cases maskK k c s <;> rfl
theorem blockOut_exit (k : Option (List Nat × Bool)) (i j : Nat) (c : Cx) (s : St) : blockOut k i c (.exit j, s) = if j = i then (maskK k c s).bind fun s' => some (.normal, s') else some (.exit j, s) := by
  show (if j = i then (maskK k c s).map _ else _) = _
  cases maskK k c s <;> rfl
theorem blockOut_ret (k : Option (List Nat × Bool)) (i : Nat) (c : Cx) (s : St) : blockOut k i c (.ret, s) = some (.ret, s) := rfl
theorem finS_ret (rs : List ResultVar) (s : St) : finS P rs (.ret, s) = (omap (resOf P s.tm s.hp) rs).bind fun vs => some (oneOrTup vs, s.hp) := by
  show (omap (resOf P s.tm s.hp) rs).map _ = _
  cases omap (resOf P s.tm s.hp) rs <;> rfl
theorem finS_normal (rs : List ResultVar) (s : St) : finS P rs (.normal, s) = (omap (resOf P s.tm s.hp) rs).bind fun vs => some (oneOrTup vs, s.hp) := by
  show (omap (resOf P s.tm s.hp) rs).map _ = _
  cases omap (resOf P s.tm s.hp) rs <;> rfl
theorem res_tmp (tm : List (Nat × PV)) (t : Nat) : resOf P tm H (.tmp t) = get tm t := rfl
theorem res_cell (tm : List (Nat × PV)) (a : Nat) (t : TypeId) : resOf P tm H (.cell a t) = (get tm a).bind fun p => loadPV P H t p := rfl
theorem one_one (v : PV) : oneOrTup [v] = v := rfl
theorem one_two (v w : PV) (l : List PV) : oneOrTup (v :: w :: l) = .tup (v :: w :: l) := rfl
theorem enter_nil (i : Nat) : enterT i [] = [] := rfl
theorem enter_cons (i : Nat) (v : PV) (r : List PV) : enterT i (v :: r) = (i, v) :: enterT (i + 1) r := rfl
theorem mask_none (c : Cx) (s : St) : maskK none c s = some s := rfl
theorem mask_keep (ks : List Nat) (c : Cx) (s : St) : maskK (some (ks, false)) c s = some ⟨keepT s.tm ks, s.hp⟩ := rfl
theorem mask_compact (ks : List Nat) (f N : Nat) (s : St) : maskK (some (ks, true)) ⟨f, 0, N⟩ s = compact (keepT s.tm ks) s.hp := rfl
theorem keep_nil (tm : List (Nat × PV)) : keepT tm [] = [] := rfl
noncomputable def keepOne (k : Nat) : Option PV → List (Nat × PV) → List (Nat × PV)
  | some v, l => (k, v) :: l
  | none, l => l
theorem keep_cons (tm : List (Nat × PV)) (k : Nat) (r : List Nat) : keepT tm (k :: r) = keepOne k (get tm k) (keepT tm r) := by
  simp only [keepT]
  cases get tm k <;> rfl
theorem keepOne_some (k : Nat) (v : PV) (l : List (Nat × PV)) : keepOne k (some v) l = (k, v) :: l := rfl
theorem keepOne_none (k : Nat) (l : List (Nat × PV)) : keepOne k none l = l := rfl

/-- The loop whose body begins with a region. -/
noncomputable def findLoop (r : Nat) : Code → Option Code
  | .seq a b => match findLoop r a with
    | some c => some c
    | none => findLoop r b
  | .cond _ a b => match findLoop r a with
    | some c => some c
    | none => findLoop r b
  | .block _ b => findLoop r b
  | .loop b => bif Nat.beq (firstReg b) r then some b else findLoop r b
  | .scope b => findLoop r b
  | _ => none
noncomputable def bodyOf (f : Func) : Code := match f.body with | some c => c | none => .skip
noncomputable def loopOf (f : Func) (r : Nat) : Code := match findLoop r (bodyOf f) with | some c => c | none => .skip

/-! own memory numbered anew: nothing kept -/
/-- A value that leads to no own memory. -/
def Flat (v : PV) : Prop := idsOf v = [] ∧ okIds v = true ∧ ∀ l, ren l v = v
theorem flat_int (k : IntKind) (n : Int) : Flat (.int k n) := ⟨rfl, rfl, fun _ => rfl⟩
theorem flat_bool (b : Bool) : Flat (.bool b) := ⟨rfl, rfl, fun _ => rfl⟩
theorem flat_str (s : ByteArray) : Flat (.str s) := ⟨rfl, rfl, fun _ => rfl⟩
theorem flat_nils : Flat .nils := ⟨rfl, rfl, fun _ => rfl⟩
theorem flat_nilp : Flat .nilp := ⟨rfl, rfl, fun _ => rfl⟩
theorem flat_lst (es : List (List PV)) : Flat (.lst es) := ⟨rfl, rfl, fun _ => rfl⟩
theorem flat_box (es : List PV) (r : Nat) : Flat (.box es r) := ⟨rfl, rfl, fun _ => rfl⟩
theorem Sl.flat {q : PV} {es : List (List PV)} (hq : Sl q es) : Flat q := by
  rcases hq with ⟨rfl, _⟩ | rfl
  · exact flat_nils
  · exact flat_lst _
theorem compact_flat : ∀ {tm : List (Nat × PV)}, (∀ x ∈ tm, Flat x.2) → compact tm H = some ⟨tm, []⟩ := by
  intro tm hf
  have h1 : tm.flatMap (fun x => idsOf x.2) = [] := by
    rw [List.flatMap_eq_nil_iff]
    exact fun x hx => (hf x hx).1
  have h2 : tm.all (fun x => okIds x.2) = true := List.all_eq_true.2 fun x hx => (hf x hx).2.1
  have h3 : ∀ n, closeIds H n [] = [] := by
    intro n
    induction n with
    | zero => rfl
    | succ n ih => simpa only [closeIds, List.flatMap_nil, List.foldl_nil] using ih
  have h4 : tm.map (fun x => (x.1, ren [] x.2)) = tm := by
    rw [List.map_congr_left (g := id) (fun x hx => by rw [(hf x hx).2.2]; rfl), List.map_id]
  simp only [compact, h1, List.foldl_nil, h3, h2, if_true, h4]
  rfl
end
end Go.Am
