import Derived.Test.YtcclbkkgpcpikaaG1
import Derived.Test.YtcclbkkgpcpikaaAmC
set_option linter.unusedSimpArgs false
set_option linter.unusedVariables false
namespace Go.Proofs.Ytcclbkkgpcpikaa
open Go.Am
set_option maxRecDepth 100000
noncomputable abbrev L1 := lim Try.prog hints
/-! rows of numbers -/
def encI (x : Int) : List PV := [.int .i64 x]
def encN (x : Nat) : List PV := [.int .i64 x]
theorem flatI (l : List Int) (z : Nat) (m : Bool) : flatM (.row (l.map encI) z m) = true := by
  apply flat_rows
  intro c hc v hv
  obtain ⟨x, _, rfl⟩ := List.mem_map.1 hc
  simp only [encI, List.mem_cons, List.not_mem_nil, or_false] at hv
  subst hv; rfl
theorem flatN (l : List Nat) (z : Nat) (m : Bool) : flatM (.row (l.map encN) z m) = true := by
  apply flat_rows
  intro c hc v hv
  obtain ⟨x, _, rfl⟩ := List.mem_map.1 hc
  simp only [encN, List.mem_cons, List.not_mem_nil, or_false] at hv
  subst hv; rfl
theorem getI {l : List Int} {i : Nat} (hi : i < l.length) : (l.map encI)[i]? = some [.int .i64 l[i]] := by simp [hi, encI]
theorem getN {l : List Nat} {i : Nat} (hi : i < l.length) : (l.map encN)[i]? = some [.int .i64 (l[i] : Nat)] := by simp [hi, encN]
theorem setI (l : List Int) (i : Nat) (x : Int) : (l.map encI).set i [.int .i64 x] = (l.set i x).map encI := by rw [List.map_set]; rfl
theorem plainI (l : List Int) : ∀ c ∈ l.map encI, ∀ x ∈ c, Plain x := by
  intro c hc v hv
  obtain ⟨x, _, rfl⟩ := List.mem_map.1 hc
  simp only [encI, List.mem_cons, List.not_mem_nil, or_false] at hv
  subst hv; exact plain_int _ _

/-- A call whose result is own memory of the caller. -/
theorem imp_of {E : Ev} {f : FuncId} {qs : List PV} {x : PV × List Mem} {v : PV} {hp : List Mem} (hr : E.rn f qs [] = some x) (hp1 : parts1 x.1 = [x.1]) (hc : compact [(0, x.1)] x.2 = some ⟨[(0, v)], hp⟩) (hrj : ∀ y, rejoin x.1 [y] = y) (hv : okIds v = true) (hh : hp.all okMs = true) (base : Nat) :
    impCall E f qs base = some (sh base v, hp.map (shM base), selfP v && hp.all selfM) := by
  simp only [impCall, hr, Option.bind_some, hp1, enterT, hc, List.all_cons, List.all_nil, hv, hh, Bool.and_true, if_true, List.map_cons, List.map_nil, hrj]
noncomputable def negs : List (List PV) → Bool
  | [] => true
  | [.int .i64 (.negSucc 0)] :: r => negs r
  | _ => false
theorem negs_eq : ∀ {l : List (List PV)}, negs l = true → l = (List.replicate l.length (-1)).map encI
  | [], _ => rfl
  | [.int .i64 (.negSucc 0)] :: r, h => by
    rw [List.length_cons, List.replicate_succ, List.map_cons, ← negs_eq (l := r) h]; rfl
/-- slices.Repeat of -1, for the sizes that graphs have. -/
noncomputable def repIs (n : Nat) (r : Option (PV × List Mem)) : Bool :=
  match r with
  | some (.ref id 0 a b, H) => Nat.beq a n && Nat.beq b n && (match H[id]? with
    | some (.row es 1 true) => Nat.beq es.length n && negs es
    | _ => false)
  | _ => false
theorem repIs_spec {n : Nat} {r : Option (PV × List Mem)} (h : repIs n r = true) : ∃ id H, r = some (.ref id 0 n n, H) ∧ H[id]? = some (.row ((List.replicate n (-1)).map encI) 1 true) := by
  unfold repIs at h
  split at h
  · rename_i id a b H
    simp only [Bool.and_eq_true] at h
    obtain ⟨⟨h1, h2⟩, h3⟩ := h
    have e1 := Nat.eq_of_beq_eq_true h1
    have e2 := Nat.eq_of_beq_eq_true h2
    subst e1
    subst e2
    split at h3
    · rename_i es he
      simp only [Bool.and_eq_true] at h3
      have e3 := Nat.eq_of_beq_eq_true h3.1
      have e4 := negs_eq h3.2
      rw [e3] at e4
      exact ⟨id, H, rfl, by rw [he, ← e4]⟩
    · cases h3
  · cases h
theorem repeat_runs : ∀ n : Fin 25, repIs n ((evalF Try.prog hints 40).rn 91 [.lst [[.int .i64 (-1)]], .int .i64 (n : Nat)] []) = true := by decide +kernel
theorem repeat_imp {n : Nat} (hn : n ≤ 24) (base : Nat) : impCall L1 91 [.lst [[.int .i64 (-1)]], .int .i64 (n : Nat)] base = some (.ref base 0 n n, [.row ((List.replicate n (-1)).map encI) 1 true], true) := by
  obtain ⟨rid, H, h1, h2⟩ := repIs_spec (repeat_runs ⟨n, by omega⟩)
  have hfl := flatI (List.replicate n (-1)) 1 true
  rw [imp_of (v := .ref 0 0 n n) (hp := [.row ((List.replicate n (-1)).map encI) 1 true]) (lim_of h1) rfl ?_ (fun y => rfl) rfl ?_ base]
  · simp [sh, sh1, shM, selfP, self1, selfM, encI]
  · simp (decide := true) only [h2, hfl, Am.compactK, Am.idsT, Am.closeStep, Am.keepW, Am.kstdW, Am.splice, Am.walkW, Am.stdW, id, reduceCtorEq, Nat.reduceAdd, Nat.reduceSub, Nat.reduceMul, List.forall_mem_cons, List.forall_mem_nil, false_implies, implies_true]
  · rw [List.map_replicate]
    simp [okMs, encI, okIds]

/-! the search through the edges -/
def enc2N (x : Nat × Nat) : List PV := [.int .i64 x.1, .int .i64 x.2]
theorem get2N {l : List (Nat × Nat)} {i : Nat} (hi : i < l.length) : (l.map enc2N)[(i : Int).toNat]? = some [.int .i64 (l[i].1 : Nat), .int .i64 (l[i].2 : Nat)] := by simp [hi, enc2N]
def touch (x : Nat × Nat) (v : Nat) : Bool := decide (x.1 = v) || decide (x.2 = v)
def oth (x : Nat × Nat) (v : Nat) : Nat := x.1 + x.2 - v
def negAt (out : List Int) (v : Nat) : Bool := decide (out.getD v 0 < 0)
def edgesF (wo : Int) (at_ m : Nat) : Nat → List (Nat × Nat) → List Int → List Nat → List Int × List Nat
  | _, [], out, todo => (out, todo)
  | k, x :: r, out, todo => if (!decide ((k : Int) = wo) && touch x at_ && negAt out (oth x at_)) = true then edgesF wo at_ m (k + 1) r (out.set (oth x at_) m) (todo ++ [oth x at_]) else edgesF wo at_ m (k + 1) r out todo
def cnt (out : List Int) : Nat := (out.filter fun x => decide (x < 0)).length
theorem cnt_set : ∀ {out : List Int} {i : Nat} (m : Nat), negAt out i = true → cnt (out.set i m) + 1 = cnt out
  | [], i, m, h => by simp [negAt] at h
  | x :: r, 0, m, h => by
    have h' : x < 0 := by simpa [negAt] using h
    have h2 : decide ((m : Int) < 0) = false := decide_eq_false (by omega)
    rw [List.set_cons_zero]
    simp only [cnt, List.filter_cons, h2, decide_eq_true h', if_true, List.length_cons]
    simp
  | x :: r, i + 1, m, h => by
    have ih := cnt_set (out := r) (i := i) m (by simpa [negAt] using h)
    unfold cnt at ih ⊢
    rw [List.set_cons_succ, List.filter_cons, List.filter_cons]
    split <;> (try simp only [List.length_cons]) <;> omega
theorem negAt_lt {out : List Int} {i : Nat} (h : negAt out i = true) : i < out.length := by
  unfold negAt at h
  by_cases hi : i < out.length
  · exact hi
  · rw [List.getD_eq_getElem?_getD, List.getElem?_eq_none (by omega)] at h
    simp at h
theorem negAt_get {out : List Int} {i : Nat} (hi : i < out.length) : negAt out i = decide (out[i] < 0) := by
  unfold negAt
  rw [List.getD_eq_getElem?_getD, List.getElem?_eq_getElem hi]; rfl
noncomputable def canonD (n : Nat) (wo : Int) (q : PV) (m i : Nat) (out : List Int) (pre todo : List Nat) : St :=
  ⟨[(1, q), (2, .int .i64 wo), (7, .ref 0 0 n n), (8, .int .i64 m), (10, .ref 1 pre.length todo.length todo.length), (18, .int .i64 n), (19, .int .i64 i)], [.row (out.map encI) 1 true, .row ((pre ++ todo).map encN) 1 true]⟩
noncomputable def canonE (n : Nat) (wo : Int) (q : PV) (m at_ i len k : Nat) (out : List Int) (pre todo : List Nat) : St :=
  ⟨[(1, q), (2, .int .i64 wo), (7, .ref 0 0 n n), (8, .int .i64 m), (10, .ref 1 pre.length todo.length todo.length), (11, .int .i64 at_), (18, .int .i64 n), (19, .int .i64 i), (41, q), (42, .int .i64 len), (43, .int .i64 k)], [.row (out.map encI) 1 true, .row ((pre ++ todo).map encN) 1 true]⟩
def postE (n : Nat) (wo : Int) (q : PV) (m i : Nat) (s : List Int × List Nat) (r : Ex × St) : Prop :=
  r.1 = .exit 4 ∧ ∃ pre, maskK (hints.keepB 55 4) ⟨55, 0, 88⟩ r.2 = some (canonD n wo q m i s.1 pre s.2)
theorem edgesF_end (wo : Int) (at_ m : Nat) {k : Nat} {l : List (Nat × Nat)} (h : ¬ k < l.length) (out : List Int) (todo : List Nat) : edgesF wo at_ m k (l.drop k) out todo = (out, todo) := by
  rw [List.drop_eq_nil_of_le (by omega)]; rfl
theorem edgesF_skip {wo : Int} {at_ m : Nat} {k : Nat} {l : List (Nat × Nat)} (h : k < l.length) {out : List Int} {todo : List Nat} (hb : (!decide ((k : Int) = wo) && touch l[k] at_ && negAt out (oth l[k] at_)) = false) : edgesF wo at_ m k (l.drop k) out todo = edgesF wo at_ m (k + 1) (l.drop (k + 1)) out todo := by
  rw [List.drop_eq_getElem_cons h, edgesF, if_neg (by rw [hb]; simp)]
theorem edgesF_take {wo : Int} {at_ m : Nat} {k : Nat} {l : List (Nat × Nat)} (h : k < l.length) {out : List Int} {todo : List Nat} (hb : (!decide ((k : Int) = wo) && touch l[k] at_ && negAt out (oth l[k] at_)) = true) : edgesF wo at_ m k (l.drop k) out todo = edgesF wo at_ m (k + 1) (l.drop (k + 1)) (out.set (oth l[k] at_) m) (todo ++ [oth l[k] at_]) := by
  rw [List.drop_eq_getElem_cons h, edgesF, if_pos hb]
def okL (n : Nat) (l : List (Nat × Nat)) : Prop := ∀ x ∈ l, x.1 < n ∧ x.2 < n
set_option maxHeartbeats 8000000 in
theorem parts_edges (n : Nat) (hn : n ≤ 24) (wo : Int) (q : PV) (l : List (Nat × Nat)) (hq : Sl q (l.map enc2N)) (hok : okL n l) (hl : l.length ≤ 64) (m at_ i : Nat) (hat : at_ < n) : ∀ (a : Nat × List Int × List Nat × List Nat) (t : St), (a.1 ≤ l.length ∧ a.2.1.length = n ∧ cnt a.2.1 + a.2.2.2.length ≤ 1000) →
    maskK (hints.keep 55 (firstReg (loopOf Try.f55 13))) ⟨55, 0, 88⟩ t = some (canonE n wo q m at_ i l.length a.1 a.2.1 a.2.2.1 a.2.2.2) →
    Holds (L1.ex ⟨55, 0, 88⟩ (.loop (loopOf Try.f55 13)) t) (postE n wo q m i (edgesF wo at_ m a.1 (l.drop a.1) a.2.1 a.2.2.2)) := by
  refine loop_rule (σ := Nat × List Int × List Nat × List Nat) (c := ⟨55, 0, 88⟩) (b := loopOf Try.f55 13) (fun a => canonE n wo q m at_ i l.length a.1 a.2.1 a.2.2.1 a.2.2.2) (fun a => a.1 ≤ l.length ∧ a.2.1.length = n ∧ cnt a.2.1 + a.2.2.2.length ≤ 1000) (fun a => l.length - a.1) _ ?_
  rintro ⟨k, out, pre, todo⟩ ⟨hk, hout, hc⟩
  simp only at hk hout hc
  obtain ⟨a1, a2, a3, a4, a5, a6, a7⟩ := hq.ids
  have f1 := flatI out 1 true
  have f2 := flatN (pre ++ todo) 1 true
  by_cases hlt : k < l.length
  · have hix := fun H => index_sl (P := Try.prog) (H := H) hq slZ22 (k := .i64) (j := k) (by omega) (get2N hlt) rfl
    have hlt' : decide ((k : Int) < l.length) = true := decide_eq_true (by omega)
    have hw : IntKind.i64.wrap ((k : Int) + 1) = ((k + 1 : Nat) : Int) := wrap64 (by omega) (by omega)
    have hx := hok _ (List.getElem_mem hlt)
    have skip := @edgesF_skip wo at_ m k l hlt out todo
    have take := @edgesF_take wo at_ m k l hlt out todo
    generalize l[k] = x at hix hx skip take
    obtain ⟨a, b⟩ := x
    simp only at hix hx
    by_cases c0 : (k : Int) = wo
    · have c0' : decide ((k : Int) = wo) = true := decide_eq_true c0
      simp (decide := true) (implicitDefEqProofs := false) only [Am.findLoop, Am.loopOf, Am.bodyOf, Am.firstReg, Nat.beq, cond_true, cond_false, Am.splice, Am.walkW, Am.stdW, id, reduceCtorEq, Nat.reduceAdd, Nat.reduceSub, Nat.reduceMul, List.forall_mem_cons, List.forall_mem_nil, false_implies, implies_true, Try.f55, factsOf55, canonE, hix, hlt', hw, keep55_13, f1, f2, a1, a2, a3, a4, a5, a6, a7, c0', Am.compactK, Am.idsT, Am.closeStep, Am.keepW, Am.kstdW]
      exact ⟨(k + 1, out, pre, todo), rfl, ⟨hlt, hout, hc⟩, by simp only; omega, fun r hr => by rw [skip (by rw [c0']; rfl)]; exact hr⟩
    have c0' : decide ((k : Int) = wo) = false := decide_eq_false c0
    by_cases ct : touch (a, b) at_ = true
    · have hab : a = at_ ∨ b = at_ := by simpa [touch] using ct
      have hs1 : IntKind.i64.wrap ((a : Int) + (b : Int)) = ((a + b : Nat) : Int) := wrap64 (by omega) (by omega)
      have hs2 : IntKind.i64.wrap (((a + b : Nat) : Int) - (at_ : Int)) = ((oth (a, b) at_ : Nat) : Int) := by
        rw [wrap64 (by omega) (by omega)]; simp only [oth]; omega
      have ho : oth (a, b) at_ < n := by simp only [oth]; omega
      generalize oth (a, b) at_ = y at hs2 ho skip take
      have hyn : ((y : Nat) : Int) < (n : Int) := by omega
      have hgy := getI (l := out) (i := y) (by omega)
      have hc1 : (!decide ((a : Int) = (at_ : Int))) = true → (!decide ((b : Int) = (at_ : Int))) = false := by
        intro h; simp only [Bool.not_eq_true', decide_eq_false_iff_not] at h; simp only [Bool.not_eq_false', decide_eq_true_eq]; omega
      by_cases cn : negAt out y = true
      · have hny : decide (out[y] < 0) = true := by rw [← negAt_get (by omega)]; exact cn
        have hcs := cnt_set m cn
        have hnext : ∀ r, postE n wo q m i (edgesF wo at_ m (k + 1) (l.drop (k + 1)) (out.set y m) (todo ++ [y])) r → postE n wo q m i (edgesF wo at_ m k (l.drop k) out todo) r := by
          intro r hr; rw [take (by rw [c0', ct, cn]; rfl)]; exact hr
        have f3 := flatI (out.set y m) 1 true
        have f4 := flatN (todo ++ [y]) 1 true
        have hap : ∀ H : List Mem, H[1]? = some (.row ((pre ++ todo).map encN) 1 true) → appendS H 1 8 (.ref 1 pre.length todo.length todo.length) [[.int .i64 y]] = some (.ref H.length 0 (todo.length + 1) (todo.length + 1), H.set 1 .dead ++ [.row ((todo ++ [y]).map encN) 1 true]) := by
          intro H hH
          rw [List.map_append] at hH ⊢
          exact app_row hH (by simp) (by simp) (by omega) _
        cases ha : decide ((a : Int) = (at_ : Int)) with
        | true =>
          simp (decide := true) (implicitDefEqProofs := false) only [Am.findLoop, Am.loopOf, Am.bodyOf, Am.firstReg, Nat.beq, cond_true, cond_false, Am.splice, Am.walkW, Am.stdW, id, reduceCtorEq, Nat.reduceAdd, Nat.reduceSub, Nat.reduceMul, List.forall_mem_cons, List.forall_mem_nil, false_implies, implies_true, Try.f55, factsOf55, canonE, hix, hlt', hw, keep55_13, f1, f2, f3, f4, a1, a2, a3, a4, a5, a6, a7, c0', ha, hs1, hs2, hyn, hgy, hny, setI, hap, List.replicate_succ, List.replicate_zero, buildSliceM, fillRow, appendF, appendH, src_lst, src_ref, elemsO_row, headOk_one, Nat.le_refl, Am.compactK, Am.idsT, Am.closeStep, Am.keepW, Am.kstdW]
          exact ⟨(k + 1, out.set y m, [], todo ++ [y]), by simp only [canonE, List.length_append, List.length_cons, List.length_nil, List.nil_append, Nat.zero_add], ⟨hlt, by simpa using hout, by simp only [List.length_append, List.length_cons, List.length_nil]; omega⟩, by simp only; omega, hnext⟩
        | false =>
          have hb := hc1 (by rw [ha]; rfl)
          simp (decide := true) (implicitDefEqProofs := false) only [Am.findLoop, Am.loopOf, Am.bodyOf, Am.firstReg, Nat.beq, cond_true, cond_false, Am.splice, Am.walkW, Am.stdW, id, reduceCtorEq, Nat.reduceAdd, Nat.reduceSub, Nat.reduceMul, List.forall_mem_cons, List.forall_mem_nil, false_implies, implies_true, Try.f55, factsOf55, canonE, hix, hlt', hw, keep55_13, f1, f2, f3, f4, a1, a2, a3, a4, a5, a6, a7, c0', ha, hb, hs1, hs2, hyn, hgy, hny, setI, hap, List.replicate_succ, List.replicate_zero, buildSliceM, fillRow, appendF, appendH, src_lst, src_ref, elemsO_row, headOk_one, Nat.le_refl, Am.compactK, Am.idsT, Am.closeStep, Am.keepW, Am.kstdW]
          exact ⟨(k + 1, out.set y m, [], todo ++ [y]), by simp only [canonE, List.length_append, List.length_cons, List.length_nil, List.nil_append, Nat.zero_add], ⟨hlt, by simpa using hout, by simp only [List.length_append, List.length_cons, List.length_nil]; omega⟩, by simp only; omega, hnext⟩
      · have cn' : negAt out y = false := by simpa using cn
        have hny : decide (out[y] < 0) = false := by rw [← negAt_get (by omega)]; exact cn'
        have hnext : ∀ r, postE n wo q m i (edgesF wo at_ m (k + 1) (l.drop (k + 1)) out todo) r → postE n wo q m i (edgesF wo at_ m k (l.drop k) out todo) r := by
          intro r hr; rw [skip (by rw [cn', Bool.and_false])]; exact hr
        cases ha : decide ((a : Int) = (at_ : Int)) with
        | true =>
          simp (decide := true) (implicitDefEqProofs := false) only [Am.findLoop, Am.loopOf, Am.bodyOf, Am.firstReg, Nat.beq, cond_true, cond_false, Am.splice, Am.walkW, Am.stdW, id, reduceCtorEq, Nat.reduceAdd, Nat.reduceSub, Nat.reduceMul, List.forall_mem_cons, List.forall_mem_nil, false_implies, implies_true, Try.f55, factsOf55, canonE, hix, hlt', hw, keep55_13, f1, f2, a1, a2, a3, a4, a5, a6, a7, c0', ha, hs1, hs2, hyn, hgy, hny, Am.compactK, Am.idsT, Am.closeStep, Am.keepW, Am.kstdW]
          exact ⟨(k + 1, out, pre, todo), rfl, ⟨hlt, hout, hc⟩, by simp only; omega, hnext⟩
        | false =>
          have hb := hc1 (by rw [ha]; rfl)
          simp (decide := true) (implicitDefEqProofs := false) only [Am.findLoop, Am.loopOf, Am.bodyOf, Am.firstReg, Nat.beq, cond_true, cond_false, Am.splice, Am.walkW, Am.stdW, id, reduceCtorEq, Nat.reduceAdd, Nat.reduceSub, Nat.reduceMul, List.forall_mem_cons, List.forall_mem_nil, false_implies, implies_true, Try.f55, factsOf55, canonE, hix, hlt', hw, keep55_13, f1, f2, a1, a2, a3, a4, a5, a6, a7, c0', ha, hb, hs1, hs2, hyn, hgy, hny, Am.compactK, Am.idsT, Am.closeStep, Am.keepW, Am.kstdW]
          exact ⟨(k + 1, out, pre, todo), rfl, ⟨hlt, hout, hc⟩, by simp only; omega, hnext⟩
    · have ct' : touch (a, b) at_ = false := by simpa using ct
      have hab : decide ((a : Int) = (at_ : Int)) = false ∧ decide ((b : Int) = (at_ : Int)) = false := by
        simp only [touch, Bool.or_eq_false_iff, decide_eq_false_iff_not] at ct'; exact ⟨decide_eq_false (by omega), decide_eq_false (by omega)⟩
      simp (decide := true) (implicitDefEqProofs := false) only [Am.findLoop, Am.loopOf, Am.bodyOf, Am.firstReg, Nat.beq, cond_true, cond_false, Am.splice, Am.walkW, Am.stdW, id, reduceCtorEq, Nat.reduceAdd, Nat.reduceSub, Nat.reduceMul, List.forall_mem_cons, List.forall_mem_nil, false_implies, implies_true, Try.f55, factsOf55, canonE, hix, hlt', hw, keep55_13, f1, f2, a1, a2, a3, a4, a5, a6, a7, c0', hab.1, hab.2, Am.compactK, Am.idsT, Am.closeStep, Am.keepW, Am.kstdW]
      exact ⟨(k + 1, out, pre, todo), rfl, ⟨hlt, hout, hc⟩, by simp only; omega, fun r hr => by rw [skip (by rw [ct', Bool.and_false, Bool.false_and])]; exact hr⟩
  · have hlt' : decide ((k : Int) < l.length) = false := decide_eq_false (by omega)
    simp (decide := true) (implicitDefEqProofs := false) only [Am.findLoop, Am.loopOf, Am.bodyOf, Am.firstReg, Nat.beq, cond_true, cond_false, Am.splice, Am.walkW, Am.stdW, id, reduceCtorEq, Nat.reduceAdd, Nat.reduceSub, Nat.reduceMul, List.forall_mem_cons, List.forall_mem_nil, false_implies, implies_true, Try.f55, factsOf55, canonE, hlt', a7]
    refine ⟨rfl, pre, ?_⟩
    rw [edgesF_end wo at_ m hlt]
    simp (decide := true) (implicitDefEqProofs := false) only [Am.findLoop, Am.loopOf, Am.bodyOf, Am.firstReg, Nat.beq, cond_true, cond_false, Am.splice, Am.walkW, Am.stdW, id, reduceCtorEq, Nat.reduceAdd, Nat.reduceSub, Nat.reduceMul, List.forall_mem_cons, List.forall_mem_nil, false_implies, implies_true, Try.f55, factsOf55, canonD, f1, f2, a1, a2, a3, a4, a5, a6, a7, Am.compactK, Am.idsT, Am.closeStep, Am.keepW, Am.kstdW]

theorem edgesF_len (wo : Int) (at_ m : Nat) : ∀ (l : List (Nat × Nat)) (k : Nat) (out : List Int) (todo : List Nat), (edgesF wo at_ m k l out todo).1.length = out.length
  | [], _, _, _ => rfl
  | x :: r, k, out, todo => by
    rw [edgesF]
    split
    · rw [edgesF_len wo at_ m r, List.length_set]
    · exact edgesF_len wo at_ m r _ _ _
theorem edgesF_cnt (wo : Int) (at_ m : Nat) : ∀ (l : List (Nat × Nat)) (k : Nat) (out : List Int) (todo : List Nat), cnt (edgesF wo at_ m k l out todo).1 + (edgesF wo at_ m k l out todo).2.length = cnt out + todo.length
  | [], _, _, _ => rfl
  | x :: r, k, out, todo => by
    rw [edgesF]
    split
    · rename_i h
      simp only [Bool.and_eq_true] at h
      have := cnt_set m h.2
      rw [edgesF_cnt wo at_ m r, List.length_append, List.length_cons, List.length_nil]; omega
    · exact edgesF_cnt wo at_ m r _ _ _
theorem edgesF_todo (wo : Int) (at_ m n : Nat) : ∀ (l : List (Nat × Nat)) (k : Nat) (out : List Int) (todo : List Nat), out.length = n → (∀ v ∈ todo, v < n) → ∀ v ∈ (edgesF wo at_ m k l out todo).2, v < n
  | [], _, _, _, _, h => h
  | x :: r, k, out, todo, ho, h => by
    rw [edgesF]
    split
    · rename_i hc
      simp only [Bool.and_eq_true] at hc
      refine edgesF_todo wo at_ m n r _ _ _ (by rw [List.length_set]; exact ho) ?_
      intro v hv
      rcases List.mem_append.1 hv with hv | hv
      · exact h v hv
      · rw [List.mem_singleton.1 hv, ← ho]; exact negAt_lt hc.2
    · exact edgesF_todo wo at_ m n r _ _ _ ho h
def drain (wo : Int) (l : List (Nat × Nat)) (m : Nat) : Nat → List Int → List Nat → List Int
  | 0, out, _ => out
  | _ + 1, out, [] => out
  | f + 1, out, v :: todo => drain wo l m f (edgesF wo v m 0 l out todo).1 (edgesF wo v m 0 l out todo).2
noncomputable def canonO (n : Nat) (wo : Int) (q : PV) (m i : Nat) (out : List Int) : St :=
  ⟨[(1, q), (2, .int .i64 wo), (7, .ref 0 0 n n), (8, .int .i64 m), (18, .int .i64 n), (19, .int .i64 i)], [.row (out.map encI) 1 true]⟩
def postD (n : Nat) (wo : Int) (q : PV) (l : List (Nat × Nat)) (m i : Nat) (out : List Int) (todo : List Nat) (r : Ex × St) : Prop :=
  r.1 = .exit 2 ∧ ∀ f, cnt out + todo.length ≤ f → maskK (hints.keepB 55 2) ⟨55, 0, 88⟩ r.2 = some (canonO n wo q m i (drain wo l m f out todo))
set_option maxHeartbeats 8000000 in
theorem parts_while (n : Nat) (hn : n ≤ 24) (wo : Int) (q : PV) (l : List (Nat × Nat)) (hq : Sl q (l.map enc2N)) (hok : okL n l) (hl : l.length ≤ 64) (m i : Nat) : ∀ (a : List Int × List Nat × List Nat) (t : St), (a.1.length = n ∧ cnt a.1 + a.2.2.length ≤ 1000 ∧ ∀ v ∈ a.2.2, v < n) →
    maskK (hints.keep 55 (firstReg (loopOf Try.f55 9))) ⟨55, 0, 88⟩ t = some (canonD n wo q m i a.1 a.2.1 a.2.2) →
    Holds (L1.ex ⟨55, 0, 88⟩ (.loop (loopOf Try.f55 9)) t) (postD n wo q l m i a.1 a.2.2) := by
  refine loop_rule (σ := List Int × List Nat × List Nat) (c := ⟨55, 0, 88⟩) (b := loopOf Try.f55 9) (fun a => canonD n wo q m i a.1 a.2.1 a.2.2) (fun a => a.1.length = n ∧ cnt a.1 + a.2.2.length ≤ 1000 ∧ ∀ v ∈ a.2.2, v < n) (fun a => cnt a.1 + a.2.2.length) _ ?_
  rintro ⟨out, pre, todo⟩ ⟨hout, hc, hv⟩
  simp only at hout hc hv
  obtain ⟨a1, a2, a3, a4, a5, a6, a7⟩ := hq.ids
  have f1 := flatI out 1 true
  have f2 := flatN (pre ++ todo) 1 true
  have hlen := fun H => len_sl (P := Try.prog) (H := H) hq slZ22
  rw [List.length_map] at hlen
  have hlr := fun H id i n m => len_ref (P := Try.prog) (H := H) slZ24 id i n m
  cases todo with
  | nil =>
    simp (decide := true) (implicitDefEqProofs := false) only [Am.findLoop, Am.loopOf, Am.bodyOf, Am.firstReg, Nat.beq, cond_true, cond_false, Am.splice, Am.walkW, Am.stdW, id, reduceCtorEq, Nat.reduceAdd, Nat.reduceSub, Nat.reduceMul, List.forall_mem_cons, List.forall_mem_nil, false_implies, implies_true, Try.f55, factsOf55, canonD, hlr, a7]
    refine ⟨rfl, fun f hf => ?_⟩
    have hd : drain wo l m f out [] = out := by cases f <;> rfl
    rw [hd]
    rw [List.append_nil] at f2
    simp (decide := true) (implicitDefEqProofs := false) only [Am.findLoop, Am.loopOf, Am.bodyOf, Am.firstReg, Nat.beq, cond_true, cond_false, Am.splice, Am.walkW, Am.stdW, id, reduceCtorEq, Nat.reduceAdd, Nat.reduceSub, Nat.reduceMul, List.forall_mem_cons, List.forall_mem_nil, false_implies, implies_true, Try.f55, factsOf55, canonO, f1, f2, a1, a2, a3, a4, a5, a6, a7, List.append_nil, Am.compactK, Am.idsT, Am.closeStep, Am.keepW, Am.kstdW]
  | cons v rest =>
    have hvn := hv v List.mem_cons_self
    have hrow : pre ++ v :: rest = (pre ++ [v]) ++ rest := by simp
    rw [hrow] at f2
    have hg0 : ((pre ++ [v] ++ rest).map encN)[pre.length]? = some [.int .i64 (v : Nat)] := by simp [encN]
    have hpos : decide ((0 : Int) < ((rest.length + 1 : Nat) : Int)) = true := decide_eq_true (by omega)
    have hb1 : (0 : Int) < ((rest.length + 1 : Nat) : Int) := by omega
    have hb2 : (1 : Int) ≤ ((rest.length + 1 : Nat) : Int) := by omega
    simp (decide := true) (implicitDefEqProofs := false) only [Am.findLoop, Am.loopOf, Am.bodyOf, Am.firstReg, Nat.beq, cond_true, cond_false, Am.splice, Am.walkW, Am.stdW, id, reduceCtorEq, Nat.reduceAdd, Nat.reduceSub, Nat.reduceMul, List.forall_mem_cons, List.forall_mem_nil, false_implies, implies_true, Try.f55, factsOf55, canonD, hrow, hlr, hlen, a7, hg0, hpos, hb1, hb2, Am.sliceW]
    simp only [holds_bind]
    refine (parts_edges n hn wo q l hq hok hl m v i hvn (0, out, pre ++ [v], rest) _ ⟨by omega, hout, by simp only [List.length_cons] at hc; simp only; omega⟩ ?_).mono ?_
    · show maskK (hints.keep 55 13) _ _ = _
      simp (decide := true) (implicitDefEqProofs := false) only [Am.findLoop, Am.loopOf, Am.bodyOf, Am.firstReg, Nat.beq, cond_true, cond_false, Am.splice, Am.walkW, Am.stdW, id, reduceCtorEq, Nat.reduceAdd, Nat.reduceSub, Nat.reduceMul, List.forall_mem_cons, List.forall_mem_nil, false_implies, implies_true, Try.f55, factsOf55, keep55_13, canonE, f1, f2, a1, a2, a3, a4, a5, a6, a7, Am.compactK, Am.idsT, Am.closeStep, Am.keepW, Am.kstdW]
      simp only [Nat.add_sub_cancel, List.length_append, List.length_cons, List.length_nil, Nat.zero_add]
      rfl
    · rintro ⟨e, s'⟩ ⟨h5, pre', h6⟩
      cases h5
      rw [keepB55_4] at h6
      have g1 := edgesF_len wo v m l 0 out rest
      have g2 := edgesF_cnt wo v m l 0 out rest
      have g3 := edgesF_todo wo v m n l 0 out rest hout fun w hw => hv w (List.mem_cons_of_mem _ hw)
      have hdr : ∀ f, drain wo l m (f + 1) out (v :: rest) = drain wo l m f (edgesF wo v m 0 l out rest).1 (edgesF wo v m 0 l out rest).2 := fun f => rfl
      simp only [List.drop_zero] at h6
      generalize edgesF wo v m 0 l out rest = E at h6 g1 g2 g3 hdr
      obtain ⟨out', todo'⟩ := E
      simp only at h6 g1 g2 g3 hdr
      have f5 := flatI out' 1 true
      have f6 := flatN (pre' ++ todo') 1 true
      simp only [List.length_cons] at hc
      simp (decide := true) (implicitDefEqProofs := false) only [Am.findLoop, Am.loopOf, Am.bodyOf, Am.firstReg, Nat.beq, cond_true, cond_false, Am.splice, Am.walkW, Am.stdW, id, reduceCtorEq, Nat.reduceAdd, Nat.reduceSub, Nat.reduceMul, List.forall_mem_cons, List.forall_mem_nil, false_implies, implies_true, Try.f55, factsOf55, h6, canonD, keep55_9, f5, f6, a1, a2, a3, a4, a5, a6, a7, Am.compactK, Am.idsT, Am.closeStep, Am.keepW, Am.kstdW]
      refine ⟨(out', pre', todo'), rfl, ⟨by simp only; omega, by simp only; omega, g3⟩, by simp only; omega, ?_⟩
      rintro r ⟨h7, h8⟩
      refine ⟨h7, fun f hf => ?_⟩
      obtain ⟨f, rfl⟩ : ∃ k, f = k + 1 := ⟨f - 1, by simp only [List.length_cons] at hf; omega⟩
      rw [hdr]
      exact h8 f (by simp only [List.length_cons] at hf; simp only; omega)

theorem drain_len (wo : Int) (l : List (Nat × Nat)) (m : Nat) : ∀ (f : Nat) (out : List Int) (todo : List Nat), (drain wo l m f out todo).length = out.length
  | 0, _, _ => rfl
  | _ + 1, _, [] => rfl
  | f + 1, out, v :: todo => by rw [drain, drain_len wo l m f, edgesF_len]
def partsGo (wo : Int) (l : List (Nat × Nat)) : Nat → Nat → Nat → List Int → List Int
  | 0, _, _, out => out
  | k + 1, i, m, out => if negAt out i = true then partsGo wo l k (i + 1) (m + 1) (drain wo l m (cnt (out.set i m) + 1) (out.set i m) [i]) else partsGo wo l k (i + 1) m out
def partsF (wo : Int) (l : List (Nat × Nat)) (n : Nat) : List Int := partsGo wo l n 0 0 (List.replicate n (-1))
theorem partsGo_len (wo : Int) (l : List (Nat × Nat)) : ∀ (k i m : Nat) (out : List Int), (partsGo wo l k i m out).length = out.length
  | 0, _, _, _ => rfl
  | k + 1, i, m, out => by
    rw [partsGo]
    split
    · rw [partsGo_len wo l k, drain_len, List.length_set]
    · exact partsGo_len wo l k _ _ _
def postO (n : Nat) (full : List Int) (r : Ex × St) : Prop := r.1 = .exit 0 ∧ maskK (hints.keepB 55 0) ⟨55, 0, 88⟩ r.2 = some ⟨[(7, .ref 0 0 n n)], [.row (full.map encI) 1 true]⟩
set_option maxHeartbeats 8000000 in
theorem parts_outer (n : Nat) (hn : n ≤ 24) (wo : Int) (q : PV) (l : List (Nat × Nat)) (hq : Sl q (l.map enc2N)) (hok : okL n l) (hl : l.length ≤ 64) : ∀ (a : Nat × Nat × List Int) (t : St), (a.1 ≤ n ∧ a.2.1 ≤ a.1 ∧ a.2.2.length = n) →
    maskK (hints.keep 55 (firstReg (loopOf Try.f55 4))) ⟨55, 0, 88⟩ t = some (canonO n wo q a.2.1 a.1 a.2.2) →
    Holds (L1.ex ⟨55, 0, 88⟩ (.loop (loopOf Try.f55 4)) t) (postO n (partsGo wo l (n - a.1) a.1 a.2.1 a.2.2)) := by
  refine loop_rule (σ := Nat × Nat × List Int) (c := ⟨55, 0, 88⟩) (b := loopOf Try.f55 4) (fun a => canonO n wo q a.2.1 a.1 a.2.2) (fun a => a.1 ≤ n ∧ a.2.1 ≤ a.1 ∧ a.2.2.length = n) (fun a => n - a.1) _ ?_
  rintro ⟨i, m, out⟩ ⟨hi, hm, hout⟩
  simp only at hi hm hout
  obtain ⟨a1, a2, a3, a4, a5, a6, a7⟩ := hq.ids
  have f1 := flatI out 1 true
  by_cases hlt : i < n
  · have hlt' : decide ((i : Int) < (n : Int)) = true := decide_eq_true (by omega)
    have hlt2 : (i : Int) < (n : Int) := by omega
    have hw : IntKind.i64.wrap ((i : Int) + 1) = ((i + 1 : Nat) : Int) := wrap64 (by omega) (by omega)
    have hwm : IntKind.i64.wrap ((m : Int) + 1) = ((m + 1 : Nat) : Int) := wrap64 (by omega) (by omega)
    have hgi := getI (l := out) (i := i) (by omega)
    obtain ⟨j, hj⟩ : ∃ j, n - i = j + 1 := ⟨n - i - 1, by omega⟩
    have hj' : n - (i + 1) = j := by omega
    by_cases cn : negAt out i = true
    · have hge : decide (0 ≤ out[i]) = false := by
        have := negAt_get (out := out) (i := i) (by omega)
        rw [cn] at this
        exact decide_eq_false (by have := of_decide_eq_true this.symm; omega)
      have f2 := flatI (out.set i m) 1 true
      have f3 := flatN ([i]) 1 true
      have f3' : flatM (.row [[.int .i64 (i : Nat)]] 1 true) = true := f3
      have hcs := cnt_set m cn
      have hcb : cnt out ≤ n := by
        unfold cnt
        exact Nat.le_trans (List.length_filter_le _ _) (by omega)
      simp (decide := true) (implicitDefEqProofs := false) only [Am.findLoop, Am.loopOf, Am.bodyOf, Am.firstReg, Nat.beq, cond_true, cond_false, Am.splice, Am.walkW, Am.stdW, id, reduceCtorEq, Nat.reduceAdd, Nat.reduceSub, Nat.reduceMul, List.forall_mem_cons, List.forall_mem_nil, false_implies, implies_true, Try.f55, factsOf55, canonO, a7, hlt', hlt2, hgi, hge, setI, List.replicate_succ, List.replicate_zero, buildSliceM, fillRow, appendF, appendH, src_lst, src_ref, elemsO_row, headOk_one, Nat.le_refl]
      simp only [holds_bind]
      refine (parts_while n hn wo q l hq hok hl m i (out.set i m, [], [i]) _ ⟨by simp only [List.length_set]; exact hout, by simp only [List.length_cons, List.length_nil]; omega, by intro v hv; rw [List.mem_singleton.1 hv]; exact hlt⟩ ?_).mono ?_
      · show maskK (hints.keep 55 9) _ _ = _
        simp (decide := true) (implicitDefEqProofs := false) only [Am.findLoop, Am.loopOf, Am.bodyOf, Am.firstReg, Nat.beq, cond_true, cond_false, Am.splice, Am.walkW, Am.stdW, id, reduceCtorEq, Nat.reduceAdd, Nat.reduceSub, Nat.reduceMul, List.forall_mem_cons, List.forall_mem_nil, false_implies, implies_true, Try.f55, factsOf55, keep55_9, canonD, f2, f3', a1, a2, a3, a4, a5, a6, a7, Am.compactK, Am.idsT, Am.closeStep, Am.keepW, Am.kstdW]
        rfl
      · rintro ⟨e, s'⟩ ⟨h5, h6⟩
        cases h5
        have h6 := h6 (cnt (out.set i m) + 1) (Nat.le_refl _)
        rw [keepB55_2] at h6
        have g1 := drain_len wo l m (cnt (out.set i m) + 1) (out.set i m) [i]
        have hpg : partsGo wo l (n - i) i m out = partsGo wo l j (i + 1) (m + 1) (drain wo l m (cnt (out.set i m) + 1) (out.set i m) [i]) := by
          rw [hj, partsGo, if_pos cn]
        simp only at h6
        rw [hpg]
        generalize drain wo l m (cnt (out.set i m) + 1) (out.set i m) [i] = out' at h6 g1
        have f5 := flatI out' 1 true
        simp (decide := true) (implicitDefEqProofs := false) only [Am.findLoop, Am.loopOf, Am.bodyOf, Am.firstReg, Nat.beq, cond_true, cond_false, Am.splice, Am.walkW, Am.stdW, id, reduceCtorEq, Nat.reduceAdd, Nat.reduceSub, Nat.reduceMul, List.forall_mem_cons, List.forall_mem_nil, false_implies, implies_true, Try.f55, factsOf55, h6, canonO, keep55_4, hw, hwm, f5, a1, a2, a3, a4, a5, a6, a7, Am.compactK, Am.idsT, Am.closeStep, Am.keepW, Am.kstdW]
        exact ⟨(i + 1, m + 1, out'), rfl, ⟨hlt, by simp only; omega, by simp only; rw [g1, List.length_set]; exact hout⟩, by simp only; omega, fun r hr => by simp only [hj'] at hr; exact hr⟩
    · have cn' : negAt out i = false := by simpa using cn
      have hge : decide (0 ≤ out[i]) = true := by
        have := negAt_get (out := out) (i := i) (by omega)
        rw [cn'] at this
        exact decide_eq_true (by have := of_decide_eq_false this.symm; omega)
      have hpg : partsGo wo l (n - i) i m out = partsGo wo l j (i + 1) m out := by
        rw [hj, partsGo, if_neg cn]
      rw [hpg]
      simp (decide := true) (implicitDefEqProofs := false) only [Am.findLoop, Am.loopOf, Am.bodyOf, Am.firstReg, Nat.beq, cond_true, cond_false, Am.splice, Am.walkW, Am.stdW, id, reduceCtorEq, Nat.reduceAdd, Nat.reduceSub, Nat.reduceMul, List.forall_mem_cons, List.forall_mem_nil, false_implies, implies_true, Try.f55, factsOf55, canonO, hlt', hlt2, hgi, hge, hw, keep55_4, f1, a1, a2, a3, a4, a5, a6, a7, Am.compactK, Am.idsT, Am.closeStep, Am.keepW, Am.kstdW]
      exact ⟨(i + 1, m, out), rfl, ⟨hlt, by simp only; omega, hout⟩, by simp only; omega, fun r hr => by simp only [hj'] at hr; exact hr⟩
  · have hlt' : decide ((i : Int) < (n : Int)) = false := decide_eq_false (by omega)
    have e : n - i = 0 := by omega
    simp (decide := true) (implicitDefEqProofs := false) only [Am.findLoop, Am.loopOf, Am.bodyOf, Am.firstReg, Nat.beq, cond_true, cond_false, Am.splice, Am.walkW, Am.stdW, id, reduceCtorEq, Nat.reduceAdd, Nat.reduceSub, Nat.reduceMul, List.forall_mem_cons, List.forall_mem_nil, false_implies, implies_true, Try.f55, factsOf55, canonO, hlt', a7]
    refine ⟨rfl, ?_⟩
    rw [e]
    simp (decide := true) (implicitDefEqProofs := false) only [Am.findLoop, Am.loopOf, Am.bodyOf, Am.firstReg, Nat.beq, cond_true, cond_false, Am.splice, Am.walkW, Am.stdW, id, reduceCtorEq, Nat.reduceAdd, Nat.reduceSub, Nat.reduceMul, List.forall_mem_cons, List.forall_mem_nil, false_implies, implies_true, Try.f55, factsOf55, partsGo, f1, Am.compactK, Am.idsT, Am.closeStep, Am.keepW, Am.kstdW]
end Go.Proofs.Ytcclbkkgpcpikaa
