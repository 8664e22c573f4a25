/-
  station.Busbars: the nodes of all buses.
-/
import Derived.Test.YtcclbkkgpcpikaaL1
import Derived.Test.YtcclbkkgpcpikaaL2
set_option linter.unusedSimpArgs false
set_option linter.unusedVariables false
namespace Go.Proofs.Ytcclbkkgpcpikaa
open Go.Am
set_option maxRecDepth 100000
noncomputable def nmF (n : Net) (i : Nat) : ByteArray := n.nodes.getD i ByteArray.empty
noncomputable def bfF (n : Net) (i : Nat) : Nat := (busF n).getD i 0
noncomputable def canonBb (q0 q1 q2 q3 q4 q5 : PV) (B : List (List PV)) (len i : Nat) (G : List (List ByteArray)) : St :=
  if 0 < G.length then ⟨[(1, .ptr 0 0 0), (5, .ref 1 0 G.length G.length), (14, .lst B), (15, .int .i64 len), (16, .int .i64 i)], rowN q0 q1 q2 q3 q4 q5 :: .row (outerRow G.length (· + 2) (lenG G)) 1 true :: rowsG G⟩
  else ⟨[(1, .ptr 0 0 0), (5, .nils), (14, .lst B), (15, .int .i64 len), (16, .int .i64 i)], [rowN q0 q1 q2 q3 q4 q5]⟩
noncomputable def outBb (G : List (List ByteArray)) : St :=
  if 0 < G.length then ⟨[(5, .ref 0 0 G.length G.length)], .row (outerRow G.length (· + 1) (lenG G)) 1 true :: rowsG G⟩ else ⟨[(5, .nils)], []⟩
theorem compB {q0 q1 q2 q3 q4 q5 : PV} {B : List (List PV)} {len i o : Nat} {G : List (List ByteArray)} {f : Nat → Nat} {H : List Mem} (hm : 0 < G.length)
    (f0 : flatM (rowN q0 q1 q2 q3 q4 q5) = true) (h0 : H[0]? = some (rowN q0 q1 q2 q3 q4 q5)) (ho : H[o]? = some (.row (outerRow G.length f (lenG G)) 1 true)) (ho0 : o ≠ 0)
    (hr : ∀ i, i < G.length → H[f i]? = some (rowG G i)) (hf0 : ∀ i, i < G.length → f i ≠ 0 ∧ f i ≠ o) (hinj : ∀ i j, i < j → j < G.length → f i ≠ f j) :
    compact [(1, .ptr 0 0 0), (5, .ref o 0 G.length G.length), (14, .lst B), (15, .int .i64 len), (16, .int .i64 i)] H = some (canonBb q0 q1 q2 q3 q4 q5 B len i G) := by
  have hids : idsT [(1, .ptr 0 0 0), (5, .ref o 0 G.length G.length), (14, .lst B), (15, .int .i64 len), (16, .int .i64 i)] = [0, o] := by
    show [0, o].foldl addNew [] = [0, o]
    rw [List.foldl_cons, List.foldl_cons, List.foldl_nil, addNew_eq, addNew_eq]
    simp [ho0]
  rw [compact_outer hm h0 f0 ho ho0 (fun i hi => ⟨hr i hi, rowG_flat G i⟩) hf0 hinj hids rfl, canonBb, if_pos hm]
  have p0 : ∀ l, pos 0 (0 :: l) = 0 := fun l => by rw [pos_cons, if_pos rfl]
  have po : ∀ l, pos o (0 :: o :: l) = 1 := fun l => by rw [pos_cons, if_neg ho0, pos_cons, if_pos rfl]
  simp only [List.map_cons, List.map_nil, ren, ren1, p0, po]
  rfl
theorem compB1 {G : List (List ByteArray)} {H : List Mem} (hm : 0 < G.length) {m0 : Mem} :
    compact [(5, .ref 1 0 G.length G.length)] (m0 :: .row (outerRow G.length (· + 2) (lenG G)) 1 true :: rowsG G) = some (outBb G) := by
  have hids : idsT [(5, .ref 1 0 G.length G.length)] = [1] := rfl
  rw [compact_out1 (H := m0 :: .row (outerRow G.length (· + 2) (lenG G)) 1 true :: rowsG G) (rows := rowG G) hm rfl (fun i hi => ⟨by rw [show i + 2 = i + 1 + 1 from rfl, List.getElem?_cons_succ, List.getElem?_cons_succ, rowsG_get hi], rowG_flat G i⟩) (fun i hi => by omega) (fun i j hi hj => by omega) hids rfl, outBb, if_pos hm]
  have po : ∀ l, pos 1 (1 :: l) = 0 := fun l => by rw [pos_cons, if_pos rfl]
  simp only [List.map_cons, List.map_nil, ren, ren1, po]
  rfl
theorem canonBb_pos {q0 q1 q2 q3 q4 q5 : PV} {B : List (List PV)} {len i : Nat} {G : List (List ByteArray)} (hm : 0 < G.length) : canonBb q0 q1 q2 q3 q4 q5 B len i G = ⟨[(1, .ptr 0 0 0), (5, .ref 1 0 G.length G.length), (14, .lst B), (15, .int .i64 len), (16, .int .i64 i)], .row [[q0, q1, q2, q3, q4, q5]] 6 true :: .row (outerRow G.length (· + 2) (lenG G)) 1 true :: rowsG G⟩ := by
  rw [canonBb, if_pos hm]; rfl
theorem compBs {q0 q1 q2 q3 q4 q5 : PV} (f0 : flatM (rowN q0 q1 q2 q3 q4 q5) = true) (B : List (List PV)) (len i : Nat) {G : List (List ByteArray)} (hm : 0 < G.length) :
    compact [(1, .ptr 0 0 0), (5, .ref 1 0 G.length G.length), (14, .lst B), (15, .int .i64 len), (16, .int .i64 i)] (.row [[q0, q1, q2, q3, q4, q5]] 6 true :: .row (outerRow G.length (· + 2) (lenG G)) 1 true :: rowsG G) = some (canonBb q0 q1 q2 q3 q4 q5 B len i G) :=
  compB (o := 1) (f := (· + 2)) hm f0 rfl rfl (by omega) (fun i hi => by rw [show i + 2 = i + 1 + 1 from rfl, List.getElem?_cons_succ, List.getElem?_cons_succ, rowsG_get hi]) (fun i hi => by omega) (fun i j h1 h2 => by omega)
theorem addG_pos {G : List (List ByteArray)} {b : Nat} (s : ByteArray) (h : b ≤ G.length) : 0 < (addG G b s).length := by
  unfold addG
  split
  · rw [List.length_append, List.length_singleton]; omega
  · rw [List.length_set]; omega
/-- A walk's facts: the name goes into a group that stands. -/
theorem stand {G : List (List ByteArray)} {b : Nat} (hb : b < G.length) (s : ByteArray) {q0 q1 q2 q3 q4 q5 : PV} (f0 : flatM (rowN q0 q1 q2 q3 q4 q5) = true) (T : Mem) :
    ∃ Rd : List Mem, (∀ J, (rowsG G ++ J).set b .dead = Rd ++ J) ∧ ∀ (B : List (List PV)) (len i : Nat),
      compact [(1, .ptr 0 0 0), (5, .ref 1 0 G.length G.length), (14, .lst B), (15, .int .i64 len), (16, .int .i64 i)]
        (rowN q0 q1 q2 q3 q4 q5 :: .row ((outerRow G.length (· + 2) (lenG G)).set b [.ref (G.length + 1 + 1 + 1) 0 (lenG G b + 1) (lenG G b + 1)]) 1 true :: (Rd ++ [T] ++ [.row ((G.getD b [] ++ [s]).map encS) 1 true]))
        = some (canonBb q0 q1 q2 q3 q4 q5 B len i (addG G b s)) := by
  have hR := rowsG_len G
  refine ⟨(rowsG G).set b .dead, fun J => List.set_append_left _ _ (by omega), fun B len i => ?_⟩
  have hA : addG G b s = G.set b (G.getD b [] ++ [s]) := by unfold addG; rw [if_neg (by omega)]
  have hl : (addG G b s).length = G.length := by rw [hA, List.length_set]
  have hgb : (addG G b s).getD b [] = G.getD b [] ++ [s] := by rw [hA, List.getD_eq_getElem?_getD, List.getElem?_set_self hb, Option.getD_some]
  have hgn : ∀ j, j ≠ b → (addG G b s).getD j [] = G.getD j [] := fun j hj => by rw [hA, List.getD_eq_getElem?_getD, List.getElem?_set_ne (fun x => hj x.symm), List.getD_eq_getElem?_getD]
  have hO : (outerRow G.length (· + 2) (lenG G)).set b [.ref (G.length + 1 + 1 + 1) 0 (lenG G b + 1) (lenG G b + 1)] = outerRow (addG G b s).length (fun j => if j = b then G.length + 3 else j + 2) (lenG (addG G b s)) := by
    rw [hl]
    have e := outerRow_set (m := G.length) (f := (· + 2)) (w := lenG G) (f' := fun j => if j = b then G.length + 3 else j + 2) (w' := lenG (addG G b s)) hb (fun j hj hjb => by
      refine ⟨by simp only [if_neg hjb], ?_⟩
      unfold lenG; rw [hgn j hjb])
    rw [← e]
    simp only [if_true]
    unfold lenG
    rw [hgb, List.length_append, List.length_singleton]
  rw [hO, show PV.ref 1 0 G.length G.length = PV.ref 1 0 (addG G b s).length (addG G b s).length by rw [hl]]
  refine compB (o := 1) (by omega) f0 rfl rfl (by omega) (fun j hj => ?_) (fun j hj => ?_) (fun j k h1 h2 => ?_)
  · rw [hl] at hj
    by_cases e : j = b
    · subst e
      simp only [if_true]
      rw [show G.length + 3 = G.length + 1 + 1 + 1 from rfl, List.getElem?_cons_succ, List.getElem?_cons_succ, List.getElem?_append_right (by simp [hR]), List.length_append, List.length_set, hR, List.length_singleton, Nat.sub_self]
      show some _ = some (rowG _ _)
      rw [rowG, hgb]
    · simp only [if_neg e]
      rw [show j + 2 = j + 1 + 1 from rfl, List.getElem?_cons_succ, List.getElem?_cons_succ, List.getElem?_append_left (by rw [List.length_append, List.length_set, hR]; omega), List.getElem?_append_left (by rw [List.length_set, hR]; omega), List.getElem?_set_ne (fun x => e x.symm), rowsG_get hj, rowG, rowG, hgn j e]
  · try simp only
    split <;> omega
  · try simp only
    rw [hl] at h2
    split <;> split <;> omega
/-- A walk's facts: the name opens a group, behind groups that stand. -/
theorem opens {G : List (List ByteArray)} (hm : 0 < G.length) (s : ByteArray) {q0 q1 q2 q3 q4 q5 : PV} (f0 : flatM (rowN q0 q1 q2 q3 q4 q5) = true) (A D T : Mem) (B : List (List PV)) (len i : Nat) :
    compact [(1, .ptr 0 0 0), (5, .ref (G.length + 1 + 1 + 1) 0 (G.length + 1) (G.length + 1)), (14, .lst B), (15, .int .i64 len), (16, .int .i64 i)]
        (rowN q0 q1 q2 q3 q4 q5 :: D :: (rowsG G ++ [A] ++ [.row (outerRow G.length (· + 2) (lenG G) ++ [[.ref (G.length + 1 + 1 + 1 + 1 + 1) 0 1 1]]) 1 true] ++ [T] ++ [.row [[.str s]] 1 true]))
        = some (canonBb q0 q1 q2 q3 q4 q5 B len i (addG G G.length s)) := by
  have hR := rowsG_len G
  have hA : addG G G.length s = G ++ [[s]] := by unfold addG; rw [if_pos rfl]
  have hl : (addG G G.length s).length = G.length + 1 := by rw [hA, List.length_append, List.length_singleton]
  have hgb : (addG G G.length s).getD G.length [] = [s] := by rw [hA, List.getD_eq_getElem?_getD, List.getElem?_append_right (Nat.le_refl _), Nat.sub_self]; rfl
  have hgn : ∀ j, j < G.length → (addG G G.length s).getD j [] = G.getD j [] := fun j hj => by rw [hA, List.getD_eq_getElem?_getD, List.getElem?_append_left hj, List.getD_eq_getElem?_getD]
  have hO : outerRow G.length (· + 2) (lenG G) ++ [[.ref (G.length + 1 + 1 + 1 + 1 + 1) 0 1 1]] = outerRow (addG G G.length s).length (fun j => if j = G.length then G.length + 5 else j + 2) (lenG (addG G G.length s)) := by
    rw [hl, outerRow_succ, outerRow_ext (m := G.length) (f := (· + 2)) (w := lenG G) (f' := fun j => if j = G.length then G.length + 5 else j + 2) (w' := lenG (addG G G.length s)) (fun j hj => by
      refine ⟨by simp only [if_neg (show ¬ j = G.length by omega)], ?_⟩
      unfold lenG; rw [hgn j hj])]
    simp only [if_true]
    unfold lenG
    rw [hgb]; rfl
  rw [hO, show PV.ref (G.length + 1 + 1 + 1) 0 (G.length + 1) (G.length + 1) = PV.ref (G.length + 3) 0 (addG G G.length s).length (addG G G.length s).length by rw [hl]]
  refine compB (o := G.length + 3) (f := fun j => if j = G.length then G.length + 5 else j + 2) (by omega) f0 rfl ?_ (by omega) (fun j hj => ?_) (fun j hj => ?_) (fun j k h1 h2 => ?_)
  · rw [show G.length + 3 = G.length + 1 + 1 + 1 from rfl, List.getElem?_cons_succ, List.getElem?_cons_succ, List.getElem?_append_left (by simp [hR]), List.getElem?_append_left (by simp [hR]), List.getElem?_append_right (by simp [hR])]
    simp [hR]
  · rw [hl] at hj
    by_cases e : j = G.length
    · subst e
      simp only [if_true]
      rw [show G.length + 5 = G.length + 1 + 1 + 1 + 1 + 1 from rfl, List.getElem?_cons_succ, List.getElem?_cons_succ, List.getElem?_append_right (by simp [hR])]
      simp only [List.length_append, hR, List.length_singleton, Nat.sub_self]
      show some _ = some (rowG _ _)
      rw [rowG, hgb]; rfl
    · simp only [if_neg e]
      have hj' : j < G.length := by omega
      rw [show j + 2 = j + 1 + 1 from rfl, List.getElem?_cons_succ, List.getElem?_cons_succ, List.getElem?_append_left (by simp [hR]; omega), List.getElem?_append_left (by simp [hR]; omega), List.getElem?_append_left (by simp [hR]; omega), List.getElem?_append_left (by simp [hR]; omega), rowsG_get hj', rowG, rowG, hgn j hj']
  · try simp only
    rw [hl] at hj
    split <;> omega
  · try simp only
    rw [hl] at h2
    split <;> split <;> omega
/-- A walk's facts: the first group. -/
theorem first {s : ByteArray} {q0 q1 q2 q3 q4 q5 : PV} (f0 : flatM (rowN q0 q1 q2 q3 q4 q5) = true) (A T : Mem) (B : List (List PV)) (len i : Nat) :
    compact [(1, .ptr 0 0 0), (5, .ref 2 0 1 1), (14, .lst B), (15, .int .i64 len), (16, .int .i64 i)] [rowN q0 q1 q2 q3 q4 q5, A, .row [[.ref 4 0 1 1]] 1 true, T, .row [[.str s]] 1 true]
        = some (canonBb q0 q1 q2 q3 q4 q5 B len i [[s]]) :=
  compB (o := 2) (G := [[s]]) (f := fun _ => 4) (by simp) f0 rfl rfl (by omega) (fun j hj => by
    rw [List.length_singleton] at hj
    have e : j = 0 := by omega
    subst e; rfl) (fun j hj => by omega) (fun j k h1 h2 => by simp only [List.length_singleton] at h2; omega)
def postBb (G : List (List ByteArray)) (r : Ex × St) : Prop := r.1 = .exit 0 ∧ maskK (hints.keepB 38 0) ⟨38, 0, 44⟩ r.2 = some (outBb G)
set_option maxHeartbeats 32000000 in
theorem busbars_loop (n : Net) (q0 q1 q2 q3 q4 q5 : PV) (hq : NetQ n q0 q1 q2 q3 q4 q5) (hv : VNet n) : ∀ (i : Nat) (t : St), i ≤ n.nodes.length →
    maskK (hints.keep 38 (firstReg (loopOf Try.f38 6))) ⟨38, 0, 44⟩ t = some (canonBb q0 q1 q2 q3 q4 q5 ((busF n).map encN) n.nodes.length i (grpF (bfF n) (nmF n) i)) →
    Holds (L1.ex ⟨38, 0, 44⟩ (.loop (loopOf Try.f38 6)) t) (postBb (grpF (bfF n) (nmF n) n.nodes.length)) := by
  refine loop_rule (σ := Nat) (c := ⟨38, 0, 44⟩) (b := loopOf Try.f38 6) (fun i => canonBb q0 q1 q2 q3 q4 q5 ((busF n).map encN) n.nodes.length i (grpF (bfF n) (nmF n) i)) (fun i => i ≤ n.nodes.length) (fun i => n.nodes.length - i) (fun _ => postBb (grpF (bfF n) (nmF n) n.nodes.length)) ?_
  intro i hi
  have hln := hv.ln
  have f0 := hq.no
  have fN := hq.no
  unfold rowN at fN
  have hlr := fun H id i n m => len_ref (P := Try.prog) (H := H) slZ72 id i n m
  have hlz := fun H => len_nils (P := Try.prog) (H := H) slZ72
  by_cases hlt : i < n.nodes.length
  · have hBl := (bus_num hv).1
    have hix := fun H => index_sl (P := Try.prog) (H := H) hq.h0 slZ41 (k := .i64) (j := i) (by omega) (encS_get hlt) rfl
    have ib := fun H => index_sl (P := Try.prog) (H := H) (.inr rfl : Sl (.lst ((busF n).map encN)) _) slZ24 (k := .i64) (j := i) (by omega) (by rw [Int.toNat_natCast]; exact getN (by omega : i < (busF n).length)) rfl
    have hlt' : decide ((i : Int) < n.nodes.length) = true := decide_eq_true (by omega)
    have hw : IntKind.i64.wrap ((i : Int) + 1) = ((i + 1 : Nat) : Int) := wrap64 (by omega) (by omega)
    have hle := grp_le (nm := nmF n) (bus_rgs hv) hlt
    have hnum := grp_num (f := bfF n) (nm := nmF n) i
    have hwd := grp_wide (f := bfF n) (nm := nmF n) i
    have hnx : grpF (bfF n) (nmF n) (i + 1) = addG (grpF (bfF n) (nmF n) i) (busF n)[i] n.nodes[i] := by
      show addG _ _ _ = _
      rw [bfF, nmF, getD_get (by omega), List.getD_eq_getElem?_getD, List.getElem?_eq_getElem hlt]; rfl
    have hle : (busF n)[i] ≤ (grpF (bfF n) (nmF n) i).length := by rw [← getD_get (by omega : i < (busF n).length)]; exact hle
    generalize hG : grpF (bfF n) (nmF n) i = G at *
    generalize (busF n)[i]'(by omega) = b at ib hnx hle
    generalize n.nodes[i] = s at hix hnx
    by_cases hm : 0 < G.length
    · have hR := rowsG_len G
      have hR1 : ∀ x, (rowsG G ++ [x]).length = G.length + 1 := fun x => by rw [List.length_append, hR]; rfl
      have hgl : ∀ x, (rowsG G ++ [x])[G.length]? = some x := fun x => by rw [List.getElem?_append_right (by omega), hR, Nat.sub_self]; rfl
      by_cases hb : b = G.length
      · subst hb
        have hcm := fun A D T => opens hm s f0 A D T ((busF n).map encN) n.nodes.length i
        have hd : decide ((G.length : Int) = (G.length : Int)) = true := decide_eq_true rfl
        have hap1 : ∀ H : List Mem, H[1]? = some (.row (outerRow G.length (· + 2) (lenG G)) 1 true) → appendS H 1 24 (.ref 1 0 G.length G.length) [[.nils]] = some (.ref H.length 0 (G.length + 1) (G.length + 1), H.set 1 .dead ++ [.row (outerRow G.length (· + 2) (lenG G) ++ [[.nils]]) 1 true]) := by
          intro H hH
          exact appS_full hH (outerRow_len _ _ _) (by omega) _
        have hR2 : ∀ x y, (rowsG G ++ [x] ++ [y]).length = G.length + 1 + 1 := fun x y => by rw [List.length_append, hR1]; rfl
        have hR3 : ∀ x y z, (rowsG G ++ [x] ++ [y] ++ [z]).length = G.length + 1 + 1 + 1 := fun x y z => by rw [List.length_append, hR2]; rfl
        have hg2 : ∀ A B, (rowsG G ++ [A] ++ [B])[G.length + 1]? = some B := fun A B => by rw [List.getElem?_append_right (by rw [hR1]; omega), hR1, Nat.sub_self]; rfl
        have hg3 : ∀ A B T, (rowsG G ++ [A] ++ [B] ++ [T])[G.length + 1 + 1]? = some T := fun A B T => by rw [List.getElem?_append_right (by rw [hR2]; omega), hR2, Nat.sub_self]; rfl
        have hg4 : ∀ A B T N, (rowsG G ++ [A] ++ [B] ++ [T] ++ [N])[G.length + 1]? = some B := fun A B T N => by rw [List.getElem?_append_left (by rw [hR3]; omega), List.getElem?_append_left (by rw [hR2]; omega), hg2]
        have hset : ∀ A B T N X, (rowsG G ++ [A] ++ [B] ++ [T] ++ [N]).set (G.length + 1) X = rowsG G ++ [A] ++ [X] ++ [T] ++ [N] := fun A B T N X => by rw [List.set_append_left _ _ (by rw [hR3]; omega), List.set_append_left _ _ (by rw [hR2]; omega), List.set_append_right _ _ (by rw [hR1]; omega), hR1, Nat.sub_self]; rfl
        have hOl := outerRow_len G.length (· + 2) (lenG G)
        have hOm : (outerRow G.length (· + 2) (lenG G) ++ [[PV.nils]])[G.length]? = some [PV.nils] := by rw [List.getElem?_append_right (by omega), hOl, Nat.sub_self]; rfl
        have hOs : ∀ x, (outerRow G.length (· + 2) (lenG G) ++ [[PV.nils]]).set G.length x = outerRow G.length (· + 2) (lenG G) ++ [x] := fun x => by rw [List.set_append_right _ _ (by omega), hOl, Nat.sub_self]; rfl
        have hb1 : (G.length : Int) < ((G.length + 1 : Nat) : Int) := by omega
        have hcm' := hcm
        unfold rowN at hcm'
        have hp := addG_pos s hle
        simp only [canonBb_pos hp] at hcm'
        have hcm2 := compBs f0 ((busF n).map encN) n.nodes.length (i + 1) hp
        generalize hK : canonBb q0 q1 q2 q3 q4 q5 ((busF n).map encN) n.nodes.length (i + 1) _ = K at hcm2
        rw [← hnx] at hK
        generalize addG _ _ _ = G' at hcm' hcm2
        rw [show canonBb q0 q1 q2 q3 q4 q5 ((busF n).map encN) n.nodes.length i G = ⟨[(1, .ptr 0 0 0), (5, .ref 1 0 G.length G.length), (14, .lst ((busF n).map encN)), (15, .int .i64 n.nodes.length), (16, .int .i64 i)], rowN q0 q1 q2 q3 q4 q5 :: .row (outerRow G.length (· + 2) (lenG G)) 1 true :: rowsG G⟩ from by rw [canonBb, if_pos hm]]
        generalize outerRow G.length (· + 2) (lenG G) = O at *
        generalize rowsG G = R at *
        simp (decide := true) (implicitDefEqProofs := false) only [Am.findLoop, Am.loopOf, Am.bodyOf, Am.firstReg, Nat.beq, cond_true, cond_false, Am.splice, Am.walkW, Am.stdW, id, reduceCtorEq, Nat.reduceAdd, Nat.reduceSub, Nat.reduceMul, List.forall_mem_cons, List.forall_mem_nil, false_implies, implies_true, Try.f38, factsOf38, rowN, hlr, hix, ib, hlt', hw, hd, hb1, hR, hR1, hR2, hR3, hgl, hg2, hg3, hg4, hset, hOm, hOs, hap1, appS_nil, hcm', hcm2, List.replicate_succ, List.replicate_zero, buildSliceM, fillRow, appendF, appendH, src_lst, src_ref, elemsO_row, headOk_one, Nat.le_refl, keep38_6]
        exact ⟨i + 1, congrArg some hK.symm, hlt, by omega, fun r hr => hr⟩
      · have hb' : b < G.length := by omega
        obtain ⟨Rd, hS, hcm⟩ := stand hb' s f0 (.row [[.str s]] 1 true)
        have hd : decide ((b : Int) = (G.length : Int)) = false := decide_eq_false (by omega)
        have hbi : (b : Int) < (G.length : Int) := by omega
        have hg := outerRow_get (f := (· + 2)) (w := lenG G) hb'
        have hJ : ∀ J, (rowsG G ++ J)[b]? = some (.row ((G.getD b []).map encS) 1 true) := fun J => by rw [List.getElem?_append_left (by omega), rowsG_get hb']; rfl
        have hwb : lenG G b ≤ 100 := by
          have := hwd (G.getD b []) (by rw [List.getD_eq_getElem?_getD, List.getElem?_eq_getElem hb', Option.getD_some]; exact List.getElem_mem hb')
          unfold lenG; omega
        have hap : ∀ H : List Mem, H[b + 1 + 1]? = some (.row ((G.getD b []).map encS) 1 true) → appendS H 1 16 (.ref (b + 1 + 1) 0 (lenG G b) (lenG G b)) [[.str s]] = some (.ref H.length 0 (lenG G b + 1) (lenG G b + 1), H.set (b + 1 + 1) .dead ++ [.row ((G.getD b [] ++ [s]).map encS) 1 true]) := by
          intro H hH
          rw [List.map_append]
          exact appS_full hH (by unfold lenG; simp) (by omega) _
        have hg' : (outerRow G.length (· + 2) (lenG G))[b]? = some [.ref (b + 1 + 1) 0 (lenG G b) (lenG G b)] := hg
        have hcm' := hcm ((busF n).map encN) n.nodes.length i
        unfold rowN at hcm'
        have hp := addG_pos s hle
        simp only [canonBb_pos hp] at hcm'
        have hcm2 := compBs f0 ((busF n).map encN) n.nodes.length (i + 1) hp
        generalize hK : canonBb q0 q1 q2 q3 q4 q5 ((busF n).map encN) n.nodes.length (i + 1) _ = K at hcm2
        rw [← hnx] at hK
        generalize addG _ _ _ = G' at hcm' hcm2
        rw [show canonBb q0 q1 q2 q3 q4 q5 ((busF n).map encN) n.nodes.length i G = ⟨[(1, .ptr 0 0 0), (5, .ref 1 0 G.length G.length), (14, .lst ((busF n).map encN)), (15, .int .i64 n.nodes.length), (16, .int .i64 i)], rowN q0 q1 q2 q3 q4 q5 :: .row (outerRow G.length (· + 2) (lenG G)) 1 true :: rowsG G⟩ from by rw [canonBb, if_pos hm]]
        generalize outerRow G.length (· + 2) (lenG G) = O at *
        generalize lenG G b = w at *
        generalize rowsG G = R at *
        simp (decide := true) (implicitDefEqProofs := false) only [Am.findLoop, Am.loopOf, Am.bodyOf, Am.firstReg, Nat.beq, cond_true, cond_false, Am.splice, Am.walkW, Am.stdW, id, reduceCtorEq, Nat.reduceAdd, Nat.reduceSub, Nat.reduceMul, List.forall_mem_cons, List.forall_mem_nil, false_implies, implies_true, Try.f38, factsOf38, rowN, hlr, hix, ib, hlt', hw, hd, hbi, hg', hJ, hR, hR1, hgl, hS, hap, hcm', hcm2, List.replicate_succ, List.replicate_zero, buildSliceM, fillRow, appendF, appendH, src_lst, src_ref, elemsO_row, headOk_one, Nat.le_refl, keep38_6]
        exact ⟨i + 1, congrArg some hK.symm, hlt, by omega, fun r hr => hr⟩
    · have hG0 : G = [] := by cases G with
        | nil => rfl
        | cons g r => simp at hm
      subst hG0
      have hb0 : b = 0 := by simpa using hle
      subst hb0
      have hcm := fun A T => first (s := s) f0 A T ((busF n).map encN) n.nodes.length i
      have hcm' := hcm
      rw [show [[s]] = addG [] 0 s from rfl] at hcm'
      unfold rowN at hcm'
      have hp := addG_pos s hle
      simp only [canonBb_pos hp] at hcm'
      have hcm2 := compBs f0 ((busF n).map encN) n.nodes.length (i + 1) hp
      generalize hK : canonBb q0 q1 q2 q3 q4 q5 ((busF n).map encN) n.nodes.length (i + 1) _ = K at hcm2
      rw [← hnx] at hK
      generalize addG _ _ _ = G' at hcm' hcm2
      rw [show canonBb q0 q1 q2 q3 q4 q5 ((busF n).map encN) n.nodes.length i [] = ⟨[(1, .ptr 0 0 0), (5, .nils), (14, .lst ((busF n).map encN)), (15, .int .i64 n.nodes.length), (16, .int .i64 i)], [rowN q0 q1 q2 q3 q4 q5]⟩ from by rw [canonBb, if_neg hm]]
      simp (decide := true) (implicitDefEqProofs := false) only [Am.findLoop, Am.loopOf, Am.bodyOf, Am.firstReg, Nat.beq, cond_true, cond_false, Am.splice, Am.walkW, Am.stdW, id, reduceCtorEq, Nat.reduceAdd, Nat.reduceSub, Nat.reduceMul, List.forall_mem_cons, List.forall_mem_nil, false_implies, implies_true, Try.f38, factsOf38, rowN, hlz, hlr, hix, ib, hlt', hw, appS_nil, hcm', hcm2, List.replicate_succ, List.replicate_zero, buildSliceM, fillRow, appendF, appendH, src_lst, src_ref, elemsO_row, headOk_one, Nat.le_refl, keep38_6]
      exact ⟨i + 1, congrArg some hK.symm, hlt, by omega, fun r hr => hr⟩
  · have hlt' : decide ((i : Int) < n.nodes.length) = false := decide_eq_false (by omega)
    have e : i = n.nodes.length := by omega
    subst e
    generalize grpF (bfF n) (nmF n) n.nodes.length = G
    by_cases hm : 0 < G.length
    · rw [show canonBb q0 q1 q2 q3 q4 q5 ((busF n).map encN) n.nodes.length n.nodes.length G = ⟨[(1, .ptr 0 0 0), (5, .ref 1 0 G.length G.length), (14, .lst ((busF n).map encN)), (15, .int .i64 n.nodes.length), (16, .int .i64 n.nodes.length)], rowN q0 q1 q2 q3 q4 q5 :: .row (outerRow G.length (· + 2) (lenG G)) 1 true :: rowsG G⟩ from by rw [canonBb, if_pos hm]]
      have hcm := fun m0 => compB1 (m0 := m0) (H := []) hm
      simp (decide := true) (implicitDefEqProofs := false) only [Am.findLoop, Am.loopOf, Am.bodyOf, Am.firstReg, Nat.beq, cond_true, cond_false, Am.splice, Am.walkW, Am.stdW, id, reduceCtorEq, Nat.reduceAdd, Nat.reduceSub, Nat.reduceMul, List.forall_mem_cons, List.forall_mem_nil, false_implies, implies_true, Try.f38, factsOf38, hlt']
      refine ⟨rfl, ?_⟩
      simp (decide := true) (implicitDefEqProofs := false) only [Am.findLoop, Am.loopOf, Am.bodyOf, Am.firstReg, Nat.beq, cond_true, cond_false, Am.splice, Am.walkW, Am.stdW, id, reduceCtorEq, Nat.reduceAdd, Nat.reduceSub, Nat.reduceMul, List.forall_mem_cons, List.forall_mem_nil, false_implies, implies_true, Try.f38, factsOf38, hcm]
    · rw [show canonBb q0 q1 q2 q3 q4 q5 ((busF n).map encN) n.nodes.length n.nodes.length G = ⟨[(1, .ptr 0 0 0), (5, .nils), (14, .lst ((busF n).map encN)), (15, .int .i64 n.nodes.length), (16, .int .i64 n.nodes.length)], [rowN q0 q1 q2 q3 q4 q5]⟩ from by rw [canonBb, if_neg hm]]
      simp (decide := true) (implicitDefEqProofs := false) only [Am.findLoop, Am.loopOf, Am.bodyOf, Am.firstReg, Nat.beq, cond_true, cond_false, Am.splice, Am.walkW, Am.stdW, id, reduceCtorEq, Nat.reduceAdd, Nat.reduceSub, Nat.reduceMul, List.forall_mem_cons, List.forall_mem_nil, false_implies, implies_true, Try.f38, factsOf38, hlt']
      refine ⟨rfl, ?_⟩
      rw [outBb, if_neg hm]
      simp (decide := true) (implicitDefEqProofs := false) only [Am.findLoop, Am.loopOf, Am.bodyOf, Am.firstReg, Nat.beq, cond_true, cond_false, Am.splice, Am.walkW, Am.stdW, id, reduceCtorEq, Nat.reduceAdd, Nat.reduceSub, Nat.reduceMul, List.forall_mem_cons, List.forall_mem_nil, false_implies, implies_true, Try.f38, factsOf38, rowN, fN, Am.compactK, Am.idsT, Am.closeStep, Am.keepW, Am.kstdW]
end Go.Proofs.Ytcclbkkgpcpikaa
