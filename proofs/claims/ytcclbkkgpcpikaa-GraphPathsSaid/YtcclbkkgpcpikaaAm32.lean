/-
  Rules for content, freezing and 'append'.
-/
import Derived.Test.YtcclbkkgpcpikaaAm31
set_option linter.unusedSimpArgs false
set_option linter.unusedVariables false
namespace Go.Am
section
variable {H : List Mem}
theorem exp40_ref (i a l m : Nat) : exp expFuel H (.ref i a l m) = rowC 39 H a l H[i]? := exp_ref 39 i a l m
theorem exp39_ref (i a l m : Nat) : exp 39 H (.ref i a l m) = rowC 38 H a l H[i]? := exp_ref 38 i a l m
theorem exp39_str (s : ByteArray) : exp 39 H (.str s) = some (.str s) := rfl
theorem exp39_bool (s : Bool) : exp 39 H (.bool s) = some (.bool s) := rfl
theorem exp39_int (k : IntKind) (n : Int) : exp 39 H (.int k n) = some (.int k n) := rfl
theorem exp39_lst (es : List (List PV)) : exp 39 H (.lst es) = some (.lst es) := rfl
theorem exp38_str (s : ByteArray) : exp 38 H (.str s) = some (.str s) := rfl
theorem exp38_int (k : IntKind) (n : Int) : exp 38 H (.int k n) = some (.int k n) := rfl
theorem rowC_row (n a l : Nat) (es : List (List PV)) (z : Nat) (m : Bool) : rowC n H a l (some (.row es z m)) = if a + l ≤ es.length then (omap (omap (exp n H)) ((es.drop a).take l)).map .lst else none := rfl
noncomputable def rchO (n : Nat) (H : List Mem) (i a l : Nat) : Option Mem → List Nat
  | some (.row es _ _) => i :: ((es.drop a).take l).flatMap fun (c : List PV) => c.flatMap (rch n H)
  | _ => []
theorem rchO_row (n i a l : Nat) (es : List (List PV)) (z : Nat) (m : Bool) : rchO n H i a l (some (.row es z m)) = i :: ((es.drop a).take l).flatMap fun (c : List PV) => c.flatMap (rch n H) := rfl
theorem rch_refO (n i a l m : Nat) : rch (n + 1) H (.ref i a l m) = rchO n H i a l H[i]? := by
  show (match H[i]? with | some (.row es _ _) => i :: ((es.drop a).take l).flatMap fun (c : List PV) => c.flatMap (rch n H) | _ => []) = _
  generalize H[i]? = x
  cases x with
  | none => rfl
  | some m => cases m <;> rfl
theorem rch40_ref (i a l m : Nat) : rch expFuel H (.ref i a l m) = rchO 39 H i a l H[i]? := rch_refO 39 i a l m
theorem rch39_ref (i a l m : Nat) : rch 39 H (.ref i a l m) = rchO 38 H i a l H[i]? := rch_refO 38 i a l m
theorem rch39_str (s : ByteArray) : rch 39 H (.str s) = [] := rfl
theorem rch39_bool (s : Bool) : rch 39 H (.bool s) = [] := rfl
theorem rch39_int (k : IntKind) (n : Int) : rch 39 H (.int k n) = [] := rfl
theorem rch38_str (s : ByteArray) : rch 38 H (.str s) = [] := rfl
theorem rch38_int (k : IntKind) (n : Int) : rch 38 H (.int k n) = [] := rfl
theorem freeze_cons (i : Nat) (l : List Nat) : freeze (i :: l) H = freeze l (freeze1 H i) := rfl
noncomputable def frzO (H : List Mem) (i : Nat) : Option Mem → List Mem
  | some (.row es z _) => H.set i (.row es z false)
  | _ => H
theorem freeze1_O (i : Nat) : freeze1 H i = frzO H i H[i]? := by
  unfold freeze1 frzO
  cases H[i]? with
  | none => rfl
  | some m => cases m <;> rfl
theorem frzO_row (i : Nat) (es : List (List PV)) (z : Nat) (m : Bool) : frzO H i (some (.row es z m)) = H.set i (.row es z false) := rfl
theorem exp40_func (f : FuncId) (a c : List PV) : exp expFuel H (.func f a c) = (omap (exp 39 H) a).bind fun a' => (omap (exp 39 H) c).bind fun c' => some (.func f a' c') := by
  show (omap (exp 39 H) a).bind (fun a' => (omap (exp 39 H) c).map fun c' => PV.func f a' c') = _
  cases omap (exp 39 H) a with
  | none => rfl
  | some x => cases omap (exp 39 H) c <;> rfl
noncomputable def ptrC (n : Nat) (H : List Mem) (i r : Nat) : Option Mem → Option PV
  | some (.row es _ _) => (es[i]?).bind fun c => (omap (exp n H) c).bind fun q => some (.box q r)
  | _ => none
theorem ptrC_row (n i r : Nat) (es : List (List PV)) (z : Nat) (m : Bool) : ptrC n H i r (some (.row es z m)) = (es[i]?).bind fun c => (omap (exp n H) c).bind fun q => some (.box q r) := rfl
theorem exp_ptrO (n id i r : Nat) : exp (n + 1) H (.ptr id i r) = ptrC n H i r H[id]? := by
  show (match H[id]? with | some (.row es _ _) => (es[i]?).bind fun c => (omap (exp n H) c).map fun q => PV.box q r | _ => none) = _
  generalize H[id]? = x
  cases x with
  | none => rfl
  | some m =>
    cases m with
    | row es z b =>
      simp only [ptrC]
      cases es[i]? with
      | none => rfl
      | some c =>
        simp only [Option.bind_some]
        cases omap (exp n H) c <;> rfl
    | map _ => rfl
    | dead => rfl
theorem exp40_ptr (id i r : Nat) : exp expFuel H (.ptr id i r) = ptrC 39 H i r H[id]? := exp_ptrO 39 id i r
theorem exp39_ptr (id i r : Nat) : exp 39 H (.ptr id i r) = ptrC 38 H i r H[id]? := exp_ptrO 38 id i r
noncomputable def rchP (n : Nat) (H : List Mem) (id i : Nat) : Option Mem → List Nat
  | some (.row es _ _) => id :: (((es[i]?).getD [] : List PV)).flatMap (rch n H)
  | _ => []
theorem rchP_row (n id i : Nat) (es : List (List PV)) (z : Nat) (m : Bool) : rchP n H id i (some (.row es z m)) = id :: (((es[i]?).getD [] : List PV)).flatMap (rch n H) := rfl
theorem rch_ptrO (n id i r : Nat) : rch (n + 1) H (.ptr id i r) = rchP n H id i H[id]? := by
  show (match H[id]? with | some (.row es _ _) => id :: (((es[i]?).getD [] : List PV)).flatMap (rch n H) | _ => []) = _
  generalize H[id]? = x
  cases x with
  | none => rfl
  | some m => cases m <;> rfl
theorem rch40_ptr (id i r : Nat) : rch expFuel H (.ptr id i r) = rchP 39 H id i H[id]? := rch_ptrO 39 id i r
theorem rch39_ptr (id i r : Nat) : rch 39 H (.ptr id i r) = rchP 38 H id i H[id]? := rch_ptrO 38 id i r
theorem rch40_func (f : FuncId) (a c : List PV) : rch expFuel H (.func f a c) = a.flatMap (rch 39 H) ++ c.flatMap (rch 39 H) := rfl
theorem exp39_box (c : List PV) (r : Nat) : exp 39 H (.box c r) = some (.box c r) := rfl
theorem src_lst (es : List (List PV)) : srcOf H (.lst es) = some es := rfl
noncomputable def elemsO (a l : Nat) : Option Mem → Option (List (List PV))
  | some (.row es _ _) => if a + l ≤ es.length then some ((es.drop a).take l) else none
  | _ => none
theorem src_ref (i a l m : Nat) : srcOf H (.ref i a l m) = elemsO a l H[i]? := by
  show (match H[i]? with | some (.row es _ _) => if a + l ≤ es.length then some ((es.drop a).take l) else none | _ => none) = _
  generalize H[i]? = x
  cases x with
  | none => rfl
  | some m => cases m <;> rfl
theorem elemsO_row (a l : Nat) (es : List (List PV)) (z : Nat) (m : Bool) : elemsO a l (some (.row es z m)) = if a + l ≤ es.length then some ((es.drop a).take l) else none := rfl
theorem headOk_one (c : List PV) (l : List (List PV)) (z : Nat) : headOk (c :: l) z = (c.length == z) := rfl
/-- 'append' to what is nil. -/
theorem appS_nil (z b : Nat) (c : List PV) (l : List (List PV)) : appendS H z b .nils (c :: l) = if (c :: l).length * b ≤ 140737488355328 then some (.ref H.length 0 (c :: l).length (c :: l).length, H ++ [Mem.row (c :: l) z true]) else none := rfl
/-- 'append' to a full row of one's own. -/
theorem appS_full {z b i k : Nat} {es : List (List PV)} (hH : H[i]? = some (.row es z true)) (hl : es.length = k) (hb : (k + 1) * b ≤ 140737488355328) (c : List PV) : appendS H z b (.ref i 0 k k) [c] = some (.ref H.length 0 (k + 1) (k + 1), H.set i .dead ++ [Mem.row (es ++ [c]) z true]) := by
  simp only [appendS, hH, List.isEmpty_cons, Bool.false_eq_true, if_false, List.length_cons, List.length_nil, Nat.zero_add, List.drop_zero]
  rw [if_pos ⟨trivial, by omega⟩, if_neg (by omega), if_pos hb, List.take_of_length_le (by omega)]
end

theorem app_row {z b i p k : Nat} {H : List Mem} {pre es : List (List PV)} (hH : H[i]? = some (.row (pre ++ es) z true)) (hp : pre.length = p) (hl : es.length = k) (hb : (k + 1) * b ≤ 140737488355328) (c : List PV) : appendS H z b (.ref i p k k) [c] = some (.ref H.length 0 (k + 1) (k + 1), H.set i .dead ++ [Mem.row (es ++ [c]) z true]) := by
  simp only [appendS, hH, List.isEmpty_cons, Bool.false_eq_true, if_false, List.length_cons, List.length_nil, Nat.zero_add, List.length_append]
  rw [if_pos ⟨trivial, by omega⟩, if_neg (by omega), if_pos hb]
  congr 3
  rw [← hp, List.drop_left, ← hl, List.take_length]

/-! parts of slices and strings -/
section
variable {P : Program} {H : List Mem} {ρ : Operand → Option PV}
noncomputable def sliceRow (z id i l h x : Nat) : Option Mem → Option PV
  | some (.row _ z' _) => if z' = z then some (.ref id (i + l) (h - l) (x - l)) else none
  | _ => none
theorem sliceRow_row (z id i l h x : Nat) (es : List (List PV)) (z' : Nat) (m : Bool) : sliceRow z id i l h x (some (.row es z' m)) = if z' = z then some (.ref id (i + l) (h - l) (x - l)) else none := rfl
theorem slice_eq (t : TypeId) (x : Operand) (lo hi mx : Option Operand) : aSlice P H ρ t x lo hi mx = (ρ x).bind fun v => (aOpt ρ lo).bind fun l => (aOpt ρ hi).bind fun k => (aOpt ρ mx).bind fun m => slicePV P H t v l k m := rfl
theorem opt_none : aOpt ρ none = some none := rfl
theorem opt_some (x : Operand) : aOpt ρ (some x) = (ρ x).bind fun v => some (some v) := by
  show (ρ x).map some = _
  cases ρ x <;> rfl
theorem sl_ref (t : TypeId) (id i n m : Nat) (lo hi mx : Option PV) : slicePV P H t (.ref id i n m) lo hi mx = (slZ P t).bind fun z => (bounds3 n m lo hi mx).bind fun b => sliceRow z id i b.1 b.2.1 b.2.2 H[id]? := by
  unfold slicePV slZ telem
  cases P.underlying t with
  | none => rfl
  | some d => cases d <;> rfl
theorem sl_lst (t : TypeId) (es : List (List PV)) (lo hi mx : Option PV) : slicePV P H t (.lst es) lo hi mx = (slZ P t).bind fun z => (bounds3 es.length es.length lo hi mx).bind fun b => if headOk es z = true then some (.lst ((es.take b.2.1).drop b.1)) else none := by
  unfold slicePV slZ telem
  cases P.underlying t with
  | none => rfl
  | some d => cases d <;> rfl
theorem sl_nils (t : TypeId) (lo hi mx : Option PV) : slicePV P H t .nils lo hi mx = (slZ P t).bind fun _ => (bounds3 0 0 lo hi mx).bind fun _ => some .nils := by
  unfold slicePV slZ telem
  cases P.underlying t with
  | none => rfl
  | some d =>
    cases d <;> try rfl
    rename_i e
    simp only [Option.bind_some]
    cases tsize P e with
    | none => rfl
    | some z => simp only [Option.bind_some]; cases bounds3 0 0 lo hi mx <;> rfl
theorem sl_str (t : TypeId) (s : ByteArray) (lo hi : Option PV) : slicePV P H t (.str s) lo hi none = if isStrT P t = true then (bounds s.size lo hi).bind fun b => some (.str (s.extract b.1 b.2)) else none := by
  unfold slicePV isStrT
  cases P.underlying t with
  | none => rfl
  | some d => cases d <;> first
    | rfl
    | (simp only []; cases bounds s.size lo hi <;> rfl)
theorem bnd3_no (n m : Nat) (lo hi : Option PV) : bounds3 n m lo hi none = (bHiR n m hi).bind fun h => (bLo h lo).bind fun l => some (l, h, m) := by
  simp only [bounds3, Option.isSome_none, Bool.false_and, Bool.false_eq_true, if_false, bMx, Option.bind_some]
theorem bnd3_mx (n m : Nat) (lo : Option PV) (h x : PV) : bounds3 n m lo (some h) (some x) = (bHiR n m (some h)).bind fun h => (bLo h lo).bind fun l => (bMx h m (some x)).bind fun x => some (l, h, x) := by
  simp only [bounds3, Option.isNone_some, Bool.and_false, Bool.false_eq_true, if_false]
theorem bHiR_no (n m : Nat) : bHiR n m none = some n := rfl
theorem bHiR_int (n m : Nat) (k : IntKind) (h : Int) : bHiR n m (some (.int k h)) = if 0 ≤ h ∧ h ≤ m then some h.toNat else none := rfl
theorem bMx_int (h m : Nat) (k : IntKind) (x : Int) : bMx h m (some (.int k x)) = if h ≤ x ∧ x ≤ m then some x.toNat else none := rfl
theorem bLo_no (h : Nat) : bLo h none = some 0 := rfl
theorem bLo_int (h : Nat) (k : IntKind) (l : Int) : bLo h (some (.int k l)) = if 0 ≤ l ∧ l ≤ h then some l.toNat else none := rfl
theorem bnd_eq (n : Nat) (lo hi : Option PV) : bounds n lo hi = (bHi n hi).bind fun h => (bLo h lo).bind fun l => some (l, h) := rfl
theorem bHi_no (n : Nat) : bHi n none = some n := rfl
theorem bHi_int (n : Nat) (k : IntKind) (h : Int) : bHi n (some (.int k h)) = if 0 ≤ h ∧ h ≤ n then some h.toNat else none := rfl
theorem sliceW : type_of% (And.intro (@sliceRow_row) (And.intro (@slice_eq) (And.intro (@opt_none) (And.intro (@opt_some) (And.intro (@sl_ref) (And.intro (@sl_lst) (And.intro (@sl_nils) (And.intro (@sl_str) (And.intro (@bnd3_no) (And.intro (@bnd3_mx) (And.intro (@bHiR_no) (And.intro (@bHiR_int) (And.intro (@bMx_int) (And.intro (@bLo_no) (And.intro (@bLo_int) (And.intro (@bnd_eq) (And.intro (@bHi_no) (@bHi_int)))))))))))))))))) :=
  (And.intro (@sliceRow_row) (And.intro (@slice_eq) (And.intro (@opt_none) (And.intro (@opt_some) (And.intro (@sl_ref) (And.intro (@sl_lst) (And.intro (@sl_nils) (And.intro (@sl_str) (And.intro (@bnd3_no) (And.intro (@bnd3_mx) (And.intro (@bHiR_no) (And.intro (@bHiR_int) (And.intro (@bMx_int) (And.intro (@bLo_no) (And.intro (@bLo_int) (And.intro (@bnd_eq) (And.intro (@bHi_no) (@bHi_int))))))))))))))))))
theorem makeSlice_nat (base : Nat) (t : TypeId) (k k' : IntKind) (n : Nat) : aMakeSlice P base t (some (.int k n)) (some (.int k' n)) = (telem P t).bind fun e => (tsize P e).bind fun z => (tbytes P e).bind fun by_ => (zcells P e).bind fun zero =>
    if by_ * n ≤ 281474976710656 ∧ n < 9223372036854775808 ∧ 0 < z ∧ zero.length = z then some (.ref base 0 n n, [.row (List.replicate n zero) z true], []) else none := by
  show (makeSliceM P t (.int k n) (.int k' n)).map _ = _
  unfold makeSliceM
  simp only []
  cases telem P t with
  | none => rfl
  | some e =>
    simp only [Option.bind_some]
    cases tsize P e with
    | none => rfl
    | some z =>
      simp only [Option.bind_some]
      cases tbytes P e with
      | none => rfl
      | some b =>
        simp only [Option.bind_some]
        cases zcells P e with
        | none => rfl
        | some zero =>
          simp only [Option.bind_some, Int.toNat_natCast]
          by_cases h : b * n ≤ 281474976710656 ∧ n < 9223372036854775808 ∧ 0 < z ∧ zero.length = z
          · have h1 : ((b * n : Nat) : Int) ≤ 281474976710656 := by have := h.1; omega
            rw [if_pos h, if_pos ⟨by omega, by omega, by rw [Int.natCast_mul] at h1; exact h1, by have := h.2.1; omega, h.2.2⟩]; rfl
          · rw [if_neg h, if_neg (fun h' => h ⟨by have h1 := h'.2.2.1; rw [← Int.natCast_mul] at h1; omega, by have := h'.2.2.2.1; omega, h'.2.2.2.2⟩)]; rfl
end
end Go.Am
