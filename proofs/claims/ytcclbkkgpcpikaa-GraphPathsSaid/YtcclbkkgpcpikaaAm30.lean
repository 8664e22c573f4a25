/-
  Rules for own memory numbered anew.
-/
import Derived.Test.YtcclbkkgpcpikaaAm29
set_option linter.unusedSimpArgs false
set_option linter.unusedVariables false
namespace Go.Am

section
variable {P : Program} {h : Hints} {E : Ev} {H : List Mem}

/-- Own memory numbered anew, the numbers kept given. -/
noncomputable def compactK (tm : List (Nat × PV)) (H : List Mem) (ids : List Nat) : Option St :=
  if tm.all (fun x => okIds x.2) = true then
    (omap (fun i => (H[i]?).bind fun m => if (okM m && (idsM m).all ids.contains) = true then some (renM ids m) else none) ids).map fun H' => ⟨tm.map fun x => (x.1, ren ids x.2), H'⟩
  else none
noncomputable def idsT (tm : List (Nat × PV)) : List Nat := (tm.flatMap fun x => idsOf x.2).foldl addNew []
noncomputable def closeStep (H : List Mem) (ids : List Nat) : List Nat := (ids.flatMap (idsAt H)).foldl addNew ids
theorem compact_run (tm : List (Nat × PV)) : compact tm H = compactK tm H (closeStep H (closeStep H (closeStep H (idsT tm)))) := rfl
noncomputable def idsO : Option Mem → List Nat
  | some m => idsM m
  | none => []
theorem idsAt_eq (i : Nat) : idsAt H i = idsO H[i]? := by
  unfold idsAt idsO
  cases H[i]? <;> rfl
theorem idsO_some (m : Mem) : idsO (some m) = idsM m := rfl
theorem idsM_flat {m : Mem} (hm : flatM m = true) : idsM m = [] := by simp [idsM, hm]
theorem okM_flat {m : Mem} (hm : flatM m = true) : okM m = true := by simp [okM, hm]
theorem renM_flat {m : Mem} (hm : flatM m = true) (l : List Nat) : renM l m = m := by simp [renM, hm]
theorem idsM_row {es : List (List PV)} {z : Nat} {m : Bool} (hm : flatM (.row es z m) = false) : idsM (.row es z m) = es.flatMap fun c => c.flatMap idsOf := by simp [idsM, hm]
theorem okM_row {es : List (List PV)} {z : Nat} {m : Bool} (hm : flatM (.row es z m) = false) : okM (.row es z m) = es.all fun c => c.all okIds := by simp [okM, hm]
theorem renM_rows {es : List (List PV)} {z : Nat} {m : Bool} (hm : flatM (.row es z m) = false) (l : List Nat) : renM l (.row es z m) = .row (es.map fun c => c.map (ren l)) z m := by simp [renM, hm]
theorem flatM_row (es : List (List PV)) (z : Nat) (m : Bool) : flatM (.row es z m) = es.all fun c => c.all noIds := rfl
theorem flatM_map (es : List (PV × PV)) : flatM (.map es) = es.all fun x => noIds x.1 && noIds x.2 := rfl
theorem flat_rows {es : List (List PV)} (he : ∀ c ∈ es, ∀ v ∈ c, noIds v = true) (z : Nat) (m : Bool) : flatM (.row es z m) = true := by
  rw [flatM_row, List.all_eq_true]
  exact fun c hc => List.all_eq_true.2 (he c hc)
theorem addNew_eq (l : List Nat) (i : Nat) : addNew l i = if i ∈ l then l else l ++ [i] := by
  unfold addNew
  by_cases hi : i ∈ l
  · rw [if_pos hi, if_pos (by simpa using hi)]
  · rw [if_neg hi, if_neg (by simpa using hi)]
theorem pos_cons (i j : Nat) (r : List Nat) : pos i (j :: r) = if i = j then 0 else pos i r + 1 := by
  show (bif Nat.beq i j then 0 else pos i r + 1) = _
  by_cases hij : i = j
  · subst hij; simp
  · have : Nat.beq i j = false := by
      cases hb : Nat.beq i j with
      | true => exact absurd (Nat.eq_of_beq_eq_true hb) hij
      | false => rfl
    rw [this, if_neg hij]; rfl
theorem ids_ref (id i n m : Nat) : idsOf (.ref id i n m) = [id] := rfl
theorem ids_ptr (id i r : Nat) : idsOf (.ptr id i r) = [id] := rfl
theorem ids_map (id : Nat) : idsOf (.map id) = [id] := rfl
theorem ids_int (k : IntKind) (n : Int) : idsOf (.int k n) = [] := rfl
theorem ids_bool (b : Bool) : idsOf (.bool b) = [] := rfl
theorem ids_str (s : ByteArray) : idsOf (.str s) = [] := rfl
theorem ids_nils : idsOf .nils = [] := rfl
theorem ids_nilp : idsOf .nilp = [] := rfl
theorem ids_nilf : idsOf .nilf = [] := rfl
theorem ids_lst (es : List (List PV)) : idsOf (.lst es) = [] := rfl
theorem ids_box (c : List PV) (r : Nat) : idsOf (.box c r) = [] := rfl
theorem ids_agg (cs : List PV) : idsOf (.agg cs) = cs.flatMap idsOf1 := rfl
theorem ids_func (f : FuncId) (a c : List PV) : idsOf (.func f a c) = a.flatMap idsOf1 ++ c.flatMap idsOf1 := rfl
theorem ids1_ref (id i n m : Nat) : idsOf1 (.ref id i n m) = [id] := rfl
theorem ids1_ptr (id i r : Nat) : idsOf1 (.ptr id i r) = [id] := rfl
theorem ids1_map (id : Nat) : idsOf1 (.map id) = [id] := rfl
theorem ids1_int (k : IntKind) (n : Int) : idsOf1 (.int k n) = [] := rfl
theorem ids1_bool (b : Bool) : idsOf1 (.bool b) = [] := rfl
theorem ids1_str (s : ByteArray) : idsOf1 (.str s) = [] := rfl
theorem ids1_nils : idsOf1 .nils = [] := rfl
theorem ids1_lst (es : List (List PV)) : idsOf1 (.lst es) = [] := rfl
theorem ids1_box (c : List PV) (r : Nat) : idsOf1 (.box c r) = [] := rfl
theorem ok_ref (id i n m : Nat) : okIds (.ref id i n m) = true := rfl
theorem ok_ptr (id i r : Nat) : okIds (.ptr id i r) = true := rfl
theorem ok_map (id : Nat) : okIds (.map id) = true := rfl
theorem ok_int (k : IntKind) (n : Int) : okIds (.int k n) = true := rfl
theorem ok_bool (b : Bool) : okIds (.bool b) = true := rfl
theorem ok_str (s : ByteArray) : okIds (.str s) = true := rfl
theorem ok_nils : okIds .nils = true := rfl
theorem ok_nilp : okIds .nilp = true := rfl
theorem ok_nilf : okIds .nilf = true := rfl
theorem ok_lst (es : List (List PV)) : okIds (.lst es) = true := rfl
theorem ok_box (c : List PV) (r : Nat) : okIds (.box c r) = true := rfl
theorem ok_agg (cs : List PV) : okIds (.agg cs) = cs.all okIds1 := rfl
theorem ok_func (f : FuncId) (a c : List PV) : okIds (.func f a c) = (a.all okIds1 && c.all okIds1) := rfl
theorem ok1_ref (id i n m : Nat) : okIds1 (.ref id i n m) = true := rfl
theorem ok1_ptr (id i r : Nat) : okIds1 (.ptr id i r) = true := rfl
theorem ok1_map (id : Nat) : okIds1 (.map id) = true := rfl
theorem ok1_int (k : IntKind) (n : Int) : okIds1 (.int k n) = true := rfl
theorem ok1_bool (b : Bool) : okIds1 (.bool b) = true := rfl
theorem ok1_str (s : ByteArray) : okIds1 (.str s) = true := rfl
theorem ok1_nils : okIds1 .nils = true := rfl
theorem ok1_lst (es : List (List PV)) : okIds1 (.lst es) = true := rfl
theorem ok1_box (c : List PV) (r : Nat) : okIds1 (.box c r) = true := rfl
theorem no_ref (id i n m : Nat) : noIds (.ref id i n m) = false := rfl
theorem no_ptr (id i r : Nat) : noIds (.ptr id i r) = false := rfl
theorem no_map (id : Nat) : noIds (.map id) = false := rfl
theorem no_int (k : IntKind) (n : Int) : noIds (.int k n) = true := rfl
theorem no_bool (b : Bool) : noIds (.bool b) = true := rfl
theorem no_str (s : ByteArray) : noIds (.str s) = true := rfl
theorem no_nils : noIds .nils = true := rfl
theorem no_nilp : noIds .nilp = true := rfl
theorem no_lst (es : List (List PV)) : noIds (.lst es) = true := rfl
theorem no_box (c : List PV) (r : Nat) : noIds (.box c r) = true := rfl
theorem ren_ref (l : List Nat) (id i n m : Nat) : ren l (.ref id i n m) = .ref (pos id l) i n m := rfl
theorem ren_ptr (l : List Nat) (id i r : Nat) : ren l (.ptr id i r) = .ptr (pos id l) i r := rfl
theorem ren_map (l : List Nat) (id : Nat) : ren l (.map id) = .map (pos id l) := rfl
theorem ren_int (l : List Nat) (k : IntKind) (n : Int) : ren l (.int k n) = .int k n := rfl
theorem ren_bool (l : List Nat) (b : Bool) : ren l (.bool b) = .bool b := rfl
theorem ren_str (l : List Nat) (s : ByteArray) : ren l (.str s) = .str s := rfl
theorem ren_nils (l : List Nat) : ren l .nils = .nils := rfl
theorem ren_nilp (l : List Nat) : ren l .nilp = .nilp := rfl
theorem ren_nilf (l : List Nat) : ren l .nilf = .nilf := rfl
theorem ren_lst (l : List Nat) (es : List (List PV)) : ren l (.lst es) = .lst es := rfl
theorem ren_box (l : List Nat) (c : List PV) (r : Nat) : ren l (.box c r) = .box c r := rfl
theorem ren_agg (l : List Nat) (cs : List PV) : ren l (.agg cs) = .agg (cs.map (ren1 l)) := rfl
theorem ren_func (l : List Nat) (f : FuncId) (a c : List PV) : ren l (.func f a c) = .func f (a.map (ren1 l)) (c.map (ren1 l)) := rfl
theorem ren1_ref (l : List Nat) (id i n m : Nat) : ren1 l (.ref id i n m) = .ref (pos id l) i n m := rfl
theorem ren1_ptr (l : List Nat) (id i r : Nat) : ren1 l (.ptr id i r) = .ptr (pos id l) i r := rfl
theorem ren1_map (l : List Nat) (id : Nat) : ren1 l (.map id) = .map (pos id l) := rfl
theorem ren1_int (l : List Nat) (k : IntKind) (n : Int) : ren1 l (.int k n) = .int k n := rfl
theorem ren1_bool (l : List Nat) (b : Bool) : ren1 l (.bool b) = .bool b := rfl
theorem ren1_str (l : List Nat) (s : ByteArray) : ren1 l (.str s) = .str s := rfl
theorem ren1_nils (l : List Nat) : ren1 l .nils = .nils := rfl
theorem ren1_lst (l : List Nat) (es : List (List PV)) : ren1 l (.lst es) = .lst es := rfl
theorem ren1_box (l : List Nat) (c : List PV) (r : Nat) : ren1 l (.box c r) = .box c r := rfl
/-- What a slice that came in is to numbers. -/
theorem Sl.ids {q : PV} {es : List (List PV)} (hq : Sl q es) : idsOf q = [] ∧ okIds q = true ∧ (∀ l, ren l q = q) ∧ idsOf1 q = [] ∧ okIds1 q = true ∧ (∀ l, ren1 l q = q) ∧ noIds q = true := by
  rcases hq with ⟨rfl, _⟩ | rfl <;> exact ⟨rfl, rfl, fun _ => rfl, rfl, rfl, fun _ => rfl, rfl⟩
theorem Flat.ids {v : PV} (hv : Flat v) : idsOf v = [] ∧ okIds v = true ∧ ∀ l, ren l v = v := hv
end
end Go.Am
