import Derived.Test.YtcclbkkgpcpikaaH2
import Derived.Test.YtcclbkkgpcpikaaAmC
set_option linter.unusedSimpArgs false
set_option linter.unusedVariables false
namespace Go.Proofs.Ytcclbkkgpcpikaa
open Go.Am
set_option maxRecDepth 100000
def encT (b : Bool) : List PV := [.bool b]
noncomputable def rowT (r : List Bool) : Mem := .row (r.map encT) 1 true
theorem flatT (r : List Bool) : flatM (rowT r) = true := by
  apply flat_rows
  intro c hc v hv
  obtain ⟨x, _, rfl⟩ := List.mem_map.1 hc
  simp only [encT, List.mem_cons, List.not_mem_nil, or_false] at hv
  subst hv; rfl
theorem flatTs (T : List (List Bool)) : ∀ m ∈ T.map rowT, flatM m = true := by
  intro m hm
  obtain ⟨r, _, rfl⟩ := List.mem_map.1 hm
  exact flatT r
theorem getT {r : List Bool} {i : Nat} (hi : i < r.length) : (r.map encT)[i]? = some [.bool r[i]] := by simp [hi, encT]
theorem setTr (r : List Bool) (i : Nat) (x : Bool) : (r.map encT).set i [.bool x] = (r.set i x).map encT := by rw [List.map_set]; rfl
def gt (T : List (List Bool)) (i k : Nat) : Bool := (T.getD i []).getD k false
def setV (T : List (List Bool)) (i k : Nat) (v : Bool) : List (List Bool) := T.set i ((T.getD i []).set k v)
def Sq (n : Nat) (T : List (List Bool)) : Prop := T.length = n ∧ ∀ r ∈ T, r.length = n
theorem Sq.row {n : Nat} {T : List (List Bool)} (h : Sq n T) {i : Nat} (hi : i < n) : ∃ r, T[i]? = some r ∧ T.getD i [] = r ∧ r.length = n := by
  have hl : i < T.length := by rw [h.1]; exact hi
  refine ⟨T[i], List.getElem?_eq_getElem hl, ?_, h.2 _ (List.getElem_mem hl)⟩
  rw [List.getD_eq_getElem?_getD, List.getElem?_eq_getElem hl]; rfl
theorem Sq.set {n : Nat} {T : List (List Bool)} (h : Sq n T) {i : Nat} (hi : i < n) (k : Nat) (v : Bool) : Sq n (setV T i k v) := by
  obtain ⟨r, h1, h2, h3⟩ := h.row hi
  refine ⟨by rw [setV, List.length_set, h.1], ?_⟩
  intro x hx
  rcases List.mem_or_eq_of_mem_set hx with hx | rfl
  · exact h.2 x hx
  · rw [h2, List.length_set, h3]
/-- What a walk asks of a matrix in own memory. -/
structure MatW (n : Nat) (T : List (List Bool)) : Prop where
  len : (T.map rowT).length = n
  last : ∀ m, (T.map rowT ++ [m])[n]? = some m
  lasts : ∀ m m', (T.map rowT ++ [m]).set n m' = T.map rowT ++ [m']
  get : ∀ i, i < n → ∃ r, T.getD i [] = r ∧ r.length = n ∧ (T.map rowT)[i]? = some (.row (r.map encT) 1 true) ∧ ∀ J, (T.map rowT ++ J)[i]? = some (.row (r.map encT) 1 true)
  set : ∀ i k v, i < n → (T.map rowT).set i (.row (((T.getD i []).set k v).map encT) 1 true) = (setV T i k v).map rowT ∧ ∀ J, (T.map rowT ++ J).set i (.row (((T.getD i []).set k v).map encT) 1 true) = (setV T i k v).map rowT ++ J
  keep : ∀ tm, idsT tm = [0] → tm.all (fun x => okIds x.2) = true → (compact tm (.row (refsRow 1 n n n) 1 true :: T.map rowT) = some ⟨tm, .row (refsRow 1 n n n) 1 true :: T.map rowT⟩) ∧ ∀ J, compact tm (.row (refsRow 1 n n n) 1 true :: (T.map rowT ++ J)) = some ⟨tm, .row (refsRow 1 n n n) 1 true :: T.map rowT⟩
theorem Sq.walk {n : Nat} {T : List (List Bool)} (h : Sq n T) : MatW n T := by
  have hl : (T.map rowT).length = n := by rw [List.length_map]; exact h.1
  refine ⟨hl, fun m => by rw [List.getElem?_append_right (by omega), hl, Nat.sub_self]; rfl, fun m m' => by rw [List.set_append_right _ _ (by omega), hl, Nat.sub_self]; rfl, fun i hi => ?_, fun i k v hi => ?_, fun tm h1 h2 => compact_rows0 (by rw [List.length_map]; exact h.1) (Nat.le_refl _) (flatTs T) h1 h2⟩
  · obtain ⟨r, h1, h2, h3⟩ := h.row hi
    have h4 : (T.map rowT)[i]? = some (.row (r.map encT) 1 true) := by rw [List.getElem?_map, h1]; rfl
    refine ⟨r, h2, h3, h4, fun J => ?_⟩
    rw [List.getElem?_append_left (by rw [List.length_map, h.1]; exact hi), h4]
  · have h4 : (T.map rowT).set i (.row (((T.getD i []).set k v).map encT) 1 true) = (setV T i k v).map rowT := by
      show (T.map rowT).set i (rowT ((T.getD i []).set k v)) = _
      rw [setV, List.map_set]
    exact ⟨h4, fun J => by rw [List.set_append_left _ _ (by rw [List.length_map, h.1]; exact hi), h4]⟩
def idRow (n i : Nat) : List Bool := (List.replicate n false).set i true
/-- A closure that says which edges are used. -/
structure Clo (f : FuncId) (caps : List PV) (used : Nat → Bool) (len : Nat) : Prop where
  opn : hints.opn f = false
  imp : hints.imp f = false
  mem : hints.mem f = false
  ids : caps.flatMap idsOf1 = []
  ok : caps.all okIds1 = true
  exp : ∀ H, omap (exp expFuel H) caps = some caps
  exp39 : ∀ H, omap (Am.exp 39 H) caps = some caps
  rch : ∀ H, caps.flatMap (Am.rch 39 H) = []
  call : ∀ k, k < len → pureCall hints L1 f (.int .i64 (k : Nat) :: caps) = some (.bool (used k))
noncomputable def mat (n k : Nat) (T : List (List Bool)) : List Mem := .row (refsRow 1 n k n) 1 true :: T.map rowT
noncomputable def canonJ1 (n : Nat) (q fv : PV) (k : Nat) : St := ⟨[(0, .int .i64 n), (1, q), (2, fv), (7, .ref 0 0 n n), (17, .int .i64 n), (18, .int .i64 k)], mat n k ((List.range k).map (idRow n))⟩
def postJ1 (n : Nat) (q fv : PV) (r : Ex × St) : Prop := r.1 = .exit 0 ∧ maskK (hints.keepB 14 0) ⟨14, 0, 107⟩ r.2 = some ⟨[(0, .int .i64 n), (1, q), (2, fv), (7, .ref 0 0 n n)], mat n n ((List.range n).map (idRow n))⟩
set_option maxHeartbeats 4000000 in
theorem joined_1 (n : Nat) (hn : n ≤ 24) (q : PV) (l : List (Nat × Nat)) (hq : Sl q (l.map enc2N)) (f : FuncId) (caps : List PV) (used : Nat → Bool) (hf : Clo f caps used l.length) : ∀ (k : Nat) (t : St), k ≤ n →
    maskK (hints.keep 14 (firstReg (loopOf Try.f14 3))) ⟨14, 0, 107⟩ t = some (canonJ1 n q (.func f [] caps) k) →
    Holds (L1.ex ⟨14, 0, 107⟩ (.loop (loopOf Try.f14 3)) t) (postJ1 n q (.func f [] caps)) := by
  refine loop_rule (σ := Nat) (c := ⟨14, 0, 107⟩) (b := loopOf Try.f14 3) (canonJ1 n q (.func f [] caps)) (fun k => k ≤ n) (fun k => n - k) (fun _ => postJ1 n q (.func f [] caps)) ?_
  intro k hk
  obtain ⟨a1, a2, a3, a4, a5, a6, a7⟩ := hq.ids
  have hid := hf.ids
  have hco := hf.ok
  by_cases hlt : k < n
  · have hlt' : decide ((k : Int) < (n : Int)) = true := decide_eq_true (by omega)
    have hlt2 : (k : Int) < (n : Int) := by omega
    have hw : IntKind.i64.wrap ((k : Int) + 1) = ((k + 1 : Nat) : Int) := wrap64 (by omega) (by omega)
    have hg0 := refsRow_nil (b := 1) (n := n) (k := k) (w := n) (Nat.le_refl k) hlt
    have hg1 := refsRow_get (b := 1) (n := n) (k := k + 1) (w := n) (i := k) (by omega) (by omega)
    have hs0 := refsRow_set (b := 1) (n := n) (k := k) (w := n) hlt
    have hrep : List.replicate n [PV.bool false] = (List.replicate n false).map encT := by rw [List.map_replicate]; rfl
    have hby : n ≤ 281474976710656 := by omega
    have hcap : n < 9223372036854775808 := by omega
    have hlen : (((List.range k).map (idRow n)).map rowT).length = k := by simp
    have hgk : ∀ m, (((List.range k).map (idRow n)).map rowT ++ [m])[k]? = some m := fun m => by rw [List.getElem?_append_right (by simp)]; simp
    have hsk : ∀ m m', (((List.range k).map (idRow n)).map rowT ++ [m]).set k m' = ((List.range k).map (idRow n)).map rowT ++ [m'] := fun m m' => by rw [List.set_append_right _ _ (by simp)]; simp
    have hgt : ((List.replicate n false).map encT)[k]? = some [.bool false] := by rw [getT (by simpa using hlt)]; simp
    have hT1 : ((List.range k).map (idRow n)).map rowT ++ [.row (((List.replicate n false).set k true).map encT) 1 true] = ((List.range (k + 1)).map (idRow n)).map rowT := by
      rw [List.range_succ, List.map_append, List.map_append]; rfl
    have hcm := fun tm h1 h2 => (compact_rows0 (tm := tm) (n := n) (k := k + 1) (w := n) (mm := true) (rows := ((List.range (k + 1)).map (idRow n)).map rowT) (by simp) (by omega) (flatTs _) h1 h2).1
    simp (decide := true) (implicitDefEqProofs := false) only [Am.findLoop, Am.loopOf, Am.bodyOf, Am.firstReg, Nat.beq, cond_true, cond_false, Am.splice, Am.walkW, Am.stdW, id, reduceCtorEq, Nat.reduceAdd, Nat.reduceSub, Nat.reduceMul, List.forall_mem_cons, List.forall_mem_nil, false_implies, implies_true, Try.f14, factsOf14, canonJ1, mat, hlt', hlt2, hw, hg0, hg1, hs0, hrep, hlen, hgk, hsk, setTr, makeSlice_nat, hby, hcap, hgt, hT1, hcm, a1, a2, hid, hco, keep14_3, Am.idsT, Am.idsW, Am.kstdW]
    exact ⟨k + 1, rfl, hlt, by omega, fun r hr => hr⟩
  · have hlt' : decide ((k : Int) < (n : Int)) = false := decide_eq_false (by omega)
    have e : k = n := by omega
    subst e
    have hcm := fun tm h1 h2 => (compact_rows0 (tm := tm) (n := k) (k := k) (w := k) (mm := true) (rows := ((List.range k).map (idRow k)).map rowT) (by simp) (by omega) (flatTs _) h1 h2).1
    simp (decide := true) (implicitDefEqProofs := false) only [Am.findLoop, Am.loopOf, Am.bodyOf, Am.firstReg, Nat.beq, cond_true, cond_false, Am.splice, Am.walkW, Am.stdW, id, reduceCtorEq, Nat.reduceAdd, Nat.reduceSub, Nat.reduceMul, List.forall_mem_cons, List.forall_mem_nil, false_implies, implies_true, Try.f14, factsOf14, canonJ1, hlt']
    refine ⟨rfl, ?_⟩
    simp (decide := true) (implicitDefEqProofs := false) only [Am.findLoop, Am.loopOf, Am.bodyOf, Am.firstReg, Nat.beq, cond_true, cond_false, Am.splice, Am.walkW, Am.stdW, id, reduceCtorEq, Nat.reduceAdd, Nat.reduceSub, Nat.reduceMul, List.forall_mem_cons, List.forall_mem_nil, false_implies, implies_true, Try.f14, factsOf14, mat, hcm, a1, a2, hid, hco, Am.idsT, Am.idsW, Am.kstdW]
def joinE (used : Nat → Bool) : Nat → List (Nat × Nat) → List (List Bool) → List (List Bool)
  | _, [], T => T
  | k, x :: r, T => joinE used (k + 1) r (if used k = true then setV (setV T x.1 x.2 true) x.2 x.1 true else T)
noncomputable def canonJ2 (n : Nat) (q fv : PV) (len k : Nat) (T : List (List Bool)) : St := ⟨[(0, .int .i64 n), (2, fv), (7, .ref 0 0 n n), (33, q), (34, .int .i64 len), (35, .int .i64 k)], mat n n T⟩
def postJ2 (n : Nat) (T : List (List Bool)) (r : Ex × St) : Prop := r.1 = .exit 2 ∧ maskK (hints.keepB 14 2) ⟨14, 0, 107⟩ r.2 = some ⟨[(0, .int .i64 n), (7, .ref 0 0 n n)], mat n n T⟩
set_option maxHeartbeats 8000000 in
theorem joined_2 (n : Nat) (hn : n ≤ 24) (q : PV) (l : List (Nat × Nat)) (hq : Sl q (l.map enc2N)) (hok : okL n l) (hl : l.length ≤ 64) (f : FuncId) (caps : List PV) (used : Nat → Bool) (hf : Clo f caps used l.length) : ∀ (a : Nat × List (List Bool)) (t : St), (a.1 ≤ l.length ∧ Sq n a.2) →
    maskK (hints.keep 14 (firstReg (loopOf Try.f14 9))) ⟨14, 0, 107⟩ t = some (canonJ2 n q (.func f [] caps) l.length a.1 a.2) →
    Holds (L1.ex ⟨14, 0, 107⟩ (.loop (loopOf Try.f14 9)) t) (postJ2 n (joinE used a.1 (l.drop a.1) a.2)) := by
  refine loop_rule (σ := Nat × List (List Bool)) (c := ⟨14, 0, 107⟩) (b := loopOf Try.f14 9) (fun a => canonJ2 n q (.func f [] caps) l.length a.1 a.2) (fun a => a.1 ≤ l.length ∧ Sq n a.2) (fun a => l.length - a.1) _ ?_
  rintro ⟨k, T⟩ ⟨hk, hT⟩
  simp only at hk hT
  obtain ⟨a1, a2, a3, a4, a5, a6, a7⟩ := hq.ids
  have hid := hf.ids
  have hco := hf.ok
  have hT1 := hT.walk
  by_cases hlt : k < l.length
  · have hix := fun H => index_sl (P := Try.prog) (H := H) hq slZ22 (k := .i64) (j := k) (by omega) (get2N hlt) rfl
    have hlt' : decide ((k : Int) < l.length) = true := decide_eq_true (by omega)
    have hw : IntKind.i64.wrap ((k : Int) + 1) = ((k + 1 : Nat) : Int) := wrap64 (by omega) (by omega)
    have hx := hok _ (List.getElem_mem hlt)
    have hdr : joinE used k (l.drop k) T = joinE used (k + 1) (l.drop (k + 1)) (if used k = true then setV (setV T l[k].1 l[k].2 true) l[k].2 l[k].1 true else T) := by rw [List.drop_eq_getElem_cons hlt, joinE]
    generalize l[k] = x at hix hx hdr
    obtain ⟨a, b⟩ := x
    simp only at hix hx hdr
    have hcall := hf.call k hlt
    have hk1 := fun tm h1 h2 => (hT1.keep tm h1 h2).1
    have hk2 := fun tm h1 h2 => (hT1.keep tm h1 h2).2
    cases hu : used k with
    | false =>
      rw [hu] at hcall hdr
      rw [if_neg (by simp)] at hdr
      simp (decide := true) (implicitDefEqProofs := false) only [Am.findLoop, Am.loopOf, Am.bodyOf, Am.firstReg, Nat.beq, cond_true, cond_false, Am.splice, Am.walkW, Am.stdW, id, reduceCtorEq, Nat.reduceAdd, Nat.reduceSub, Nat.reduceMul, List.forall_mem_cons, List.forall_mem_nil, false_implies, implies_true, Try.f14, factsOf14, canonJ2, mat, hT1.len, hT1.last, hT1.lasts, hix, hlt', hw, hcall, hf.opn, hf.imp, hf.mem, hf.exp, hk1, hk2, a1, a2, a7, hid, hco, keep14_9, Am.idsT, Am.idsW, Am.kstdW]
      exact ⟨(k + 1, T), rfl, ⟨hlt, hT⟩, by simp only; omega, fun r hr => by rw [hdr]; exact hr⟩
    | true =>
      rw [hu] at hcall hdr
      rw [if_pos rfl] at hdr
      have hT2 := hT.set hx.1 b true
      have hT3 := hT2.set hx.2 a true
      obtain ⟨ra, e1, e2, e3, e4⟩ := hT1.get a hx.1
      obtain ⟨rb0, e5, e6, e7, e8⟩ := hT1.get b hx.2
      obtain ⟨rb, e9, e10, e11, e12⟩ := hT2.walk.get b hx.2
      have s1 := (hT1.set a b true hx.1).2
      have s2 := (hT2.walk.set b a true hx.2).2
      rw [e1] at s1
      rw [e9] at s2
      have hk3 := fun tm h1 h2 => (hT3.walk.keep tm h1 h2).1
      have hk4 := fun tm h1 h2 => (hT3.walk.keep tm h1 h2).2
      have ga := refsRow_get (b := 1) (n := n) (k := n) (w := n) hx.1 (Nat.le_refl _)
      have gb := refsRow_get (b := 1) (n := n) (k := n) (w := n) hx.2 (Nat.le_refl _)
      have va := getT (r := ra) (i := b) (by omega)
      have vb := getT (r := rb) (i := a) (by omega)
      have la : (a : Int) < (n : Int) := by omega
      have lb : (b : Int) < (n : Int) := by omega
      simp (maxSteps := 2000000) (decide := true) (implicitDefEqProofs := false) only [Am.findLoop, Am.loopOf, Am.bodyOf, Am.firstReg, Nat.beq, cond_true, cond_false, Am.splice, Am.walkW, Am.stdW, id, reduceCtorEq, Nat.reduceAdd, Nat.reduceSub, Nat.reduceMul, List.forall_mem_cons, List.forall_mem_nil, false_implies, implies_true, Try.f14, factsOf14, canonJ2, mat, hT1.len, hT1.last, hT1.lasts, hix, hlt', hw, hcall, hf.opn, hf.imp, hf.mem, hf.exp, hT2.walk.last, hT3.walk.last, e4, e8, e12, s1, s2, ga, gb, va, vb, la, lb, setTr, hk3, hk4, a1, a2, a7, hid, hco, keep14_9, Am.idsT, Am.idsW, Am.kstdW]
      exact ⟨(k + 1, setV (setV T a b true) b a true), rfl, ⟨hlt, hT3⟩, by simp only; omega, fun r hr => by rw [hdr]; exact hr⟩
  · have hlt' : decide ((k : Int) < l.length) = false := decide_eq_false (by omega)
    have hk1 := fun tm h1 h2 => (hT1.keep tm h1 h2).1
    simp (decide := true) (implicitDefEqProofs := false) only [Am.findLoop, Am.loopOf, Am.bodyOf, Am.firstReg, Nat.beq, cond_true, cond_false, Am.splice, Am.walkW, Am.stdW, id, reduceCtorEq, Nat.reduceAdd, Nat.reduceSub, Nat.reduceMul, List.forall_mem_cons, List.forall_mem_nil, false_implies, implies_true, Try.f14, factsOf14, canonJ2, hlt', a7]
    rw [List.drop_eq_nil_of_le (by omega)]
    refine ⟨rfl, ?_⟩
    simp (decide := true) (implicitDefEqProofs := false) only [Am.findLoop, Am.loopOf, Am.bodyOf, Am.firstReg, Nat.beq, cond_true, cond_false, Am.splice, Am.walkW, Am.stdW, id, reduceCtorEq, Nat.reduceAdd, Nat.reduceSub, Nat.reduceMul, List.forall_mem_cons, List.forall_mem_nil, false_implies, implies_true, Try.f14, factsOf14, mat, joinE, hk1, a1, a2, hid, hco, Am.idsT, Am.idsW, Am.kstdW]
def wK (m i : Nat) : Nat → Nat → List (List Bool) → List (List Bool)
  | 0, _, T => T
  | c + 1, k, T => wK m i c (k + 1) (setV T i k (gt T i k || (gt T i m && gt T m k)))
def wI (n m : Nat) : Nat → Nat → List (List Bool) → List (List Bool)
  | 0, _, T => T
  | c + 1, i, T => wI n m c (i + 1) (wK m i n 0 T)
def wM (n : Nat) : Nat → Nat → List (List Bool) → List (List Bool)
  | 0, _, T => T
  | c + 1, m, T => wM n c (m + 1) (wI n m n 0 T)
theorem wK_sq {n m i : Nat} (hi : i < n) : ∀ (c k : Nat) {T : List (List Bool)}, Sq n T → Sq n (wK m i c k T)
  | 0, _, _, h => h
  | c + 1, k, _, h => wK_sq hi c (k + 1) (h.set hi k _)
theorem wI_sq {n m : Nat} : ∀ (c i : Nat) {T : List (List Bool)}, i + c ≤ n → Sq n T → Sq n (wI n m c i T)
  | 0, _, _, _, h => h
  | c + 1, i, _, hc, h => wI_sq c (i + 1) (by omega) (wK_sq (by omega) n 0 h)
theorem wM_sq {n : Nat} : ∀ (c m : Nat) {T : List (List Bool)}, Sq n T → Sq n (wM n c m T)
  | 0, _, _, h => h
  | c + 1, m, _, h => wM_sq c (m + 1) (wI_sq n 0 (by omega) h)
noncomputable def canonK (n m i k : Nat) (T : List (List Bool)) : St := ⟨[(0, .int .i64 n), (7, .ref 0 0 n n), (11, .int .i64 m), (12, .int .i64 i), (60, .int .i64 n), (61, .int .i64 m), (64, .int .i64 n), (65, .int .i64 i), (68, .int .i64 n), (69, .int .i64 k)], mat n n T⟩
noncomputable def canonI (n m i : Nat) (T : List (List Bool)) : St := ⟨[(0, .int .i64 n), (7, .ref 0 0 n n), (11, .int .i64 m), (60, .int .i64 n), (61, .int .i64 m), (64, .int .i64 n), (65, .int .i64 i)], mat n n T⟩
noncomputable def canonM (n m : Nat) (T : List (List Bool)) : St := ⟨[(0, .int .i64 n), (7, .ref 0 0 n n), (60, .int .i64 n), (61, .int .i64 m)], mat n n T⟩
def postK (n m i : Nat) (T : List (List Bool)) (r : Ex × St) : Prop := r.1 = .exit 8 ∧ maskK (hints.keepB 14 8) ⟨14, 0, 107⟩ r.2 = some (canonI n m i T)
theorem gt_row {T : List (List Bool)} {i k : Nat} {r : List Bool} (hr : T.getD i [] = r) (hk : k < r.length) : gt T i k = r[k] := by
  unfold gt
  rw [hr, List.getD_eq_getElem?_getD, List.getElem?_eq_getElem hk]; rfl
set_option maxHeartbeats 8000000 in
theorem joined_k (n : Nat) (hn : n ≤ 24) (m i : Nat) (hm : m < n) (hi : i < n) : ∀ (a : Nat × List (List Bool)) (t : St), (a.1 ≤ n ∧ Sq n a.2) →
    maskK (hints.keep 14 (firstReg (loopOf Try.f14 21))) ⟨14, 0, 107⟩ t = some (canonK n m i a.1 a.2) →
    Holds (L1.ex ⟨14, 0, 107⟩ (.loop (loopOf Try.f14 21)) t) (postK n m i (wK m i (n - a.1) a.1 a.2)) := by
  refine loop_rule (σ := Nat × List (List Bool)) (c := ⟨14, 0, 107⟩) (b := loopOf Try.f14 21) (fun a => canonK n m i a.1 a.2) (fun a => a.1 ≤ n ∧ Sq n a.2) (fun a => n - a.1) _ ?_
  rintro ⟨k, T⟩ ⟨hk, hT⟩
  simp only at hk hT
  have hT1 := hT.walk
  by_cases hlt : k < n
  · have hlt' : decide ((k : Int) < (n : Int)) = true := decide_eq_true (by omega)
    have hw : IntKind.i64.wrap ((k : Int) + 1) = ((k + 1 : Nat) : Int) := wrap64 (by omega) (by omega)
    obtain ⟨ri, e1, e2, e3, e4⟩ := hT1.get i hi
    obtain ⟨rm, e5, e6, e7, e8⟩ := hT1.get m hm
    have gi := refsRow_get (b := 1) (n := n) (k := n) (w := n) hi (Nat.le_refl _)
    have gm := refsRow_get (b := 1) (n := n) (k := n) (w := n) hm (Nat.le_refl _)
    have vik := getT (r := ri) (i := k) (by omega)
    have vim := getT (r := ri) (i := m) (by omega)
    have vmk := getT (r := rm) (i := k) (by omega)
    have li : (i : Int) < (n : Int) := by omega
    have lm : (m : Int) < (n : Int) := by omega
    have lk : (k : Int) < (n : Int) := by omega
    have hdr : wK m i (n - k) k T = wK m i (n - (k + 1)) (k + 1) (setV T i k (ri[k] || (ri[m] && rm[k]))) := by
      obtain ⟨c, hc⟩ : ∃ c, n - k = c + 1 := ⟨n - k - 1, by omega⟩
      rw [hc, show n - (k + 1) = c by omega, wK, gt_row e1 (by omega), gt_row e1 (by omega), gt_row e5 (by omega)]
    have s1 := (hT1.set i k (ri[k] || (ri[m] && rm[k])) hi).1
    have hT2 := hT.set hi k (ri[k] || (ri[m] && rm[k]))
    rw [e1] at s1
    have hk3 := fun tm h1 h2 => (hT2.walk.keep tm h1 h2).1
    have fin : ∀ r, postK n m i (wK m i (n - (k + 1)) (k + 1) (setV T i k (ri[k] || (ri[m] && rm[k])))) r → postK n m i (wK m i (n - k) k T) r := fun r hr => by rw [hdr]; exact hr
    clear hdr
    generalize hvv : (ri[k] || (ri[m] && rm[k])) = vv at s1 hT2 hk3 fin
    generalize ri[k] = x at vik hvv
    generalize ri[m] = y at vim hvv
    generalize rm[k] = z at vmk hvv
    cases x with
    | true =>
      have hvv' : vv = true := by rw [← hvv]; rfl
      subst hvv'
      simp (decide := true) (implicitDefEqProofs := false) only [Am.findLoop, Am.loopOf, Am.bodyOf, Am.firstReg, Nat.beq, cond_true, cond_false, Am.splice, Am.walkW, Am.stdW, id, reduceCtorEq, Nat.reduceAdd, Nat.reduceSub, Nat.reduceMul, List.forall_mem_cons, List.forall_mem_nil, false_implies, implies_true, Try.f14, factsOf14, canonK, mat, hlt', hw, li, lm, lk, e3, e7, gi, gm, vik, s1, setTr, hk3, keep14_21, Am.idsT, Am.idsW, Am.kstdW]
      exact ⟨(k + 1, setV T i k true), rfl, ⟨hlt, hT2⟩, by simp only; omega, fin⟩
    | false =>
      cases y with
      | false =>
        have hvv' : vv = false := by rw [← hvv]; rfl
        subst hvv'
        simp (decide := true) (implicitDefEqProofs := false) only [Am.findLoop, Am.loopOf, Am.bodyOf, Am.firstReg, Nat.beq, cond_true, cond_false, Am.splice, Am.walkW, Am.stdW, id, reduceCtorEq, Nat.reduceAdd, Nat.reduceSub, Nat.reduceMul, List.forall_mem_cons, List.forall_mem_nil, false_implies, implies_true, Try.f14, factsOf14, canonK, mat, hlt', hw, li, lm, lk, e3, e7, gi, gm, vik, vim, s1, setTr, hk3, keep14_21, Am.idsT, Am.idsW, Am.kstdW]
        exact ⟨(k + 1, setV T i k false), rfl, ⟨hlt, hT2⟩, by simp only; omega, fin⟩
      | true =>
        have hvv' : vv = z := by rw [← hvv]; rfl
        subst hvv'
        simp (decide := true) (implicitDefEqProofs := false) only [Am.findLoop, Am.loopOf, Am.bodyOf, Am.firstReg, Nat.beq, cond_true, cond_false, Am.splice, Am.walkW, Am.stdW, id, reduceCtorEq, Nat.reduceAdd, Nat.reduceSub, Nat.reduceMul, List.forall_mem_cons, List.forall_mem_nil, false_implies, implies_true, Try.f14, factsOf14, canonK, mat, hlt', hw, li, lm, lk, e3, e7, gi, gm, vik, vim, vmk, s1, setTr, hk3, keep14_21, Am.idsT, Am.idsW, Am.kstdW]
        exact ⟨(k + 1, setV T i k vv), rfl, ⟨hlt, hT2⟩, by simp only; omega, fin⟩
  · have hlt' : decide ((k : Int) < (n : Int)) = false := decide_eq_false (by omega)
    have hk1 := fun tm h1 h2 => (hT1.keep tm h1 h2).1
    simp (decide := true) (implicitDefEqProofs := false) only [Am.findLoop, Am.loopOf, Am.bodyOf, Am.firstReg, Nat.beq, cond_true, cond_false, Am.splice, Am.walkW, Am.stdW, id, reduceCtorEq, Nat.reduceAdd, Nat.reduceSub, Nat.reduceMul, List.forall_mem_cons, List.forall_mem_nil, false_implies, implies_true, Try.f14, factsOf14, canonK, hlt']
    rw [show n - k = 0 by omega]
    refine ⟨rfl, ?_⟩
    simp (decide := true) (implicitDefEqProofs := false) only [Am.findLoop, Am.loopOf, Am.bodyOf, Am.firstReg, Nat.beq, cond_true, cond_false, Am.splice, Am.walkW, Am.stdW, id, reduceCtorEq, Nat.reduceAdd, Nat.reduceSub, Nat.reduceMul, List.forall_mem_cons, List.forall_mem_nil, false_implies, implies_true, Try.f14, factsOf14, mat, canonI, wK, hk1, Am.idsT, Am.idsW, Am.kstdW]
def postI (n m : Nat) (T : List (List Bool)) (r : Ex × St) : Prop := r.1 = .exit 6 ∧ maskK (hints.keepB 14 6) ⟨14, 0, 107⟩ r.2 = some (canonM n m T)
set_option maxHeartbeats 8000000 in
theorem joined_i (n : Nat) (hn : n ≤ 24) (m : Nat) (hm : m < n) : ∀ (a : Nat × List (List Bool)) (t : St), (a.1 ≤ n ∧ Sq n a.2) →
    maskK (hints.keep 14 (firstReg (loopOf Try.f14 18))) ⟨14, 0, 107⟩ t = some (canonI n m a.1 a.2) →
    Holds (L1.ex ⟨14, 0, 107⟩ (.loop (loopOf Try.f14 18)) t) (postI n m (wI n m (n - a.1) a.1 a.2)) := by
  refine loop_rule (σ := Nat × List (List Bool)) (c := ⟨14, 0, 107⟩) (b := loopOf Try.f14 18) (fun a => canonI n m a.1 a.2) (fun a => a.1 ≤ n ∧ Sq n a.2) (fun a => n - a.1) _ ?_
  rintro ⟨i, T⟩ ⟨hi, hT⟩
  simp only at hi hT
  have hk1 := fun tm h1 h2 => (hT.walk.keep tm h1 h2).1
  by_cases hlt : i < n
  · have hlt' : decide ((i : Int) < (n : Int)) = true := decide_eq_true (by omega)
    have hw : IntKind.i64.wrap ((i : Int) + 1) = ((i + 1 : Nat) : Int) := wrap64 (by omega) (by omega)
    simp (decide := true) (implicitDefEqProofs := false) only [Am.findLoop, Am.loopOf, Am.bodyOf, Am.firstReg, Nat.beq, cond_true, cond_false, Am.splice, Am.walkW, Am.stdW, id, reduceCtorEq, Nat.reduceAdd, Nat.reduceSub, Nat.reduceMul, List.forall_mem_cons, List.forall_mem_nil, false_implies, implies_true, Try.f14, factsOf14, canonI, mat, hlt']
    simp only [holds_bind]
    refine (joined_k n hn m i hm hlt (0, T) _ ⟨by omega, hT⟩ ?_).mono ?_
    · show maskK (hints.keep 14 21) _ _ = _
      simp (decide := true) (implicitDefEqProofs := false) only [Am.findLoop, Am.loopOf, Am.bodyOf, Am.firstReg, Nat.beq, cond_true, cond_false, Am.splice, Am.walkW, Am.stdW, id, reduceCtorEq, Nat.reduceAdd, Nat.reduceSub, Nat.reduceMul, List.forall_mem_cons, List.forall_mem_nil, false_implies, implies_true, Try.f14, factsOf14, keep14_21, canonK, mat, hk1, Am.idsT, Am.idsW, Am.kstdW]
      rfl
    · rintro ⟨e, s'⟩ ⟨h5, h6⟩
      cases h5
      rw [keepB14_8] at h6
      have hT2 := wK_sq (m := m) hlt n 0 hT
      have hdr : wI n m (n - i) i T = wI n m (n - (i + 1)) (i + 1) (wK m i n 0 T) := by
        obtain ⟨c, hc⟩ : ∃ c, n - i = c + 1 := ⟨n - i - 1, by omega⟩
        rw [hc, show n - (i + 1) = c by omega, wI]
      simp only [Nat.sub_zero] at h6
      rw [hdr]
      generalize wK m i n 0 T = T' at h6 hT2
      have hk2 := fun tm h1 h2 => (hT2.walk.keep tm h1 h2).1
      simp (decide := true) (implicitDefEqProofs := false) only [Am.findLoop, Am.loopOf, Am.bodyOf, Am.firstReg, Nat.beq, cond_true, cond_false, Am.splice, Am.walkW, Am.stdW, id, reduceCtorEq, Nat.reduceAdd, Nat.reduceSub, Nat.reduceMul, List.forall_mem_cons, List.forall_mem_nil, false_implies, implies_true, Try.f14, factsOf14, h6, canonI, mat, hw, hk2, keep14_18, Am.idsT, Am.idsW, Am.kstdW]
      exact ⟨(i + 1, T'), rfl, ⟨hlt, hT2⟩, by simp only; omega, fun r hr => hr⟩
  · have hlt' : decide ((i : Int) < (n : Int)) = false := decide_eq_false (by omega)
    simp (decide := true) (implicitDefEqProofs := false) only [Am.findLoop, Am.loopOf, Am.bodyOf, Am.firstReg, Nat.beq, cond_true, cond_false, Am.splice, Am.walkW, Am.stdW, id, reduceCtorEq, Nat.reduceAdd, Nat.reduceSub, Nat.reduceMul, List.forall_mem_cons, List.forall_mem_nil, false_implies, implies_true, Try.f14, factsOf14, canonI, hlt']
    rw [show n - i = 0 by omega]
    refine ⟨rfl, ?_⟩
    simp (decide := true) (implicitDefEqProofs := false) only [Am.findLoop, Am.loopOf, Am.bodyOf, Am.firstReg, Nat.beq, cond_true, cond_false, Am.splice, Am.walkW, Am.stdW, id, reduceCtorEq, Nat.reduceAdd, Nat.reduceSub, Nat.reduceMul, List.forall_mem_cons, List.forall_mem_nil, false_implies, implies_true, Try.f14, factsOf14, mat, canonM, wI, hk1, Am.idsT, Am.idsW, Am.kstdW]
def postM (n : Nat) (T : List (List Bool)) (r : Ex × St) : Prop := r.1 = .exit 4 ∧ maskK (hints.keepB 14 4) ⟨14, 0, 107⟩ r.2 = some ⟨[(7, .ref 0 0 n n)], mat n n T⟩
set_option maxHeartbeats 8000000 in
theorem joined_m (n : Nat) (hn : n ≤ 24) : ∀ (a : Nat × List (List Bool)) (t : St), (a.1 ≤ n ∧ Sq n a.2) →
    maskK (hints.keep 14 (firstReg (loopOf Try.f14 15))) ⟨14, 0, 107⟩ t = some (canonM n a.1 a.2) →
    Holds (L1.ex ⟨14, 0, 107⟩ (.loop (loopOf Try.f14 15)) t) (postM n (wM n (n - a.1) a.1 a.2)) := by
  refine loop_rule (σ := Nat × List (List Bool)) (c := ⟨14, 0, 107⟩) (b := loopOf Try.f14 15) (fun a => canonM n a.1 a.2) (fun a => a.1 ≤ n ∧ Sq n a.2) (fun a => n - a.1) _ ?_
  rintro ⟨m, T⟩ ⟨hm, hT⟩
  simp only at hm hT
  have hk1 := fun tm h1 h2 => (hT.walk.keep tm h1 h2).1
  by_cases hlt : m < n
  · have hlt' : decide ((m : Int) < (n : Int)) = true := decide_eq_true (by omega)
    have hw : IntKind.i64.wrap ((m : Int) + 1) = ((m + 1 : Nat) : Int) := wrap64 (by omega) (by omega)
    simp (decide := true) (implicitDefEqProofs := false) only [Am.findLoop, Am.loopOf, Am.bodyOf, Am.firstReg, Nat.beq, cond_true, cond_false, Am.splice, Am.walkW, Am.stdW, id, reduceCtorEq, Nat.reduceAdd, Nat.reduceSub, Nat.reduceMul, List.forall_mem_cons, List.forall_mem_nil, false_implies, implies_true, Try.f14, factsOf14, canonM, mat, hlt']
    simp only [holds_bind]
    refine (joined_i n hn m hlt (0, T) _ ⟨by omega, hT⟩ ?_).mono ?_
    · show maskK (hints.keep 14 18) _ _ = _
      simp (decide := true) (implicitDefEqProofs := false) only [Am.findLoop, Am.loopOf, Am.bodyOf, Am.firstReg, Nat.beq, cond_true, cond_false, Am.splice, Am.walkW, Am.stdW, id, reduceCtorEq, Nat.reduceAdd, Nat.reduceSub, Nat.reduceMul, List.forall_mem_cons, List.forall_mem_nil, false_implies, implies_true, Try.f14, factsOf14, keep14_18, canonI, mat, hk1, Am.idsT, Am.idsW, Am.kstdW]
      rfl
    · rintro ⟨e, s'⟩ ⟨h5, h6⟩
      cases h5
      rw [keepB14_6] at h6
      have hT2 := wI_sq (n := n) (m := m) n 0 (by omega) hT
      have hdr : wM n (n - m) m T = wM n (n - (m + 1)) (m + 1) (wI n m n 0 T) := by
        obtain ⟨c, hc⟩ : ∃ c, n - m = c + 1 := ⟨n - m - 1, by omega⟩
        rw [hc, show n - (m + 1) = c by omega, wM]
      simp only [Nat.sub_zero] at h6
      rw [hdr]
      generalize wI n m n 0 T = T' at h6 hT2
      have hk2 := fun tm h1 h2 => (hT2.walk.keep tm h1 h2).1
      simp (decide := true) (implicitDefEqProofs := false) only [Am.findLoop, Am.loopOf, Am.bodyOf, Am.firstReg, Nat.beq, cond_true, cond_false, Am.splice, Am.walkW, Am.stdW, id, reduceCtorEq, Nat.reduceAdd, Nat.reduceSub, Nat.reduceMul, List.forall_mem_cons, List.forall_mem_nil, false_implies, implies_true, Try.f14, factsOf14, h6, canonM, mat, hw, hk2, keep14_15, Am.idsT, Am.idsW, Am.kstdW]
      exact ⟨(m + 1, T'), rfl, ⟨hlt, hT2⟩, by simp only; omega, fun r hr => hr⟩
  · have hlt' : decide ((m : Int) < (n : Int)) = false := decide_eq_false (by omega)
    simp (decide := true) (implicitDefEqProofs := false) only [Am.findLoop, Am.loopOf, Am.bodyOf, Am.firstReg, Nat.beq, cond_true, cond_false, Am.splice, Am.walkW, Am.stdW, id, reduceCtorEq, Nat.reduceAdd, Nat.reduceSub, Nat.reduceMul, List.forall_mem_cons, List.forall_mem_nil, false_implies, implies_true, Try.f14, factsOf14, canonM, hlt']
    rw [show n - m = 0 by omega]
    refine ⟨rfl, ?_⟩
    simp (decide := true) (implicitDefEqProofs := false) only [Am.findLoop, Am.loopOf, Am.bodyOf, Am.firstReg, Nat.beq, cond_true, cond_false, Am.splice, Am.walkW, Am.stdW, id, reduceCtorEq, Nat.reduceAdd, Nat.reduceSub, Nat.reduceMul, List.forall_mem_cons, List.forall_mem_nil, false_implies, implies_true, Try.f14, factsOf14, mat, wM, hk1, Am.idsT, Am.idsW, Am.kstdW]
def joinedF (used : Nat → Bool) (n : Nat) (l : List (Nat × Nat)) : List (List Bool) := wM n n 0 (joinE used 0 l ((List.range n).map (idRow n)))
theorem joinE_sq {used : Nat → Bool} {n : Nat} : ∀ {l : List (Nat × Nat)} (k : Nat) {T : List (List Bool)}, okL n l → Sq n T → Sq n (joinE used k l T)
  | [], _, _, _, h => h
  | x :: r, k, T, ho, h => by
    rw [joinE]
    have hx := ho x List.mem_cons_self
    refine joinE_sq (k + 1) (fun y hy => ho y (List.mem_cons_of_mem _ hy)) ?_
    split
    · exact (h.set hx.1 _ _).set hx.2 _ _
    · exact h
theorem idRows_sq (n : Nat) : Sq n ((List.range n).map (idRow n)) := by
  refine ⟨by simp, ?_⟩
  intro r hr
  obtain ⟨i, _, rfl⟩ := List.mem_map.1 hr
  simp [idRow]
theorem joinedF_sq {used : Nat → Bool} {n : Nat} {l : List (Nat × Nat)} (ho : okL n l) : Sq n (joinedF used n l) := wM_sq n 0 (joinE_sq 0 ho (idRows_sq n))
/-- The content of a matrix. -/
noncomputable def matC (T : List (List Bool)) : PV := .lst (T.map fun r => [.lst (r.map encT)])
theorem plainT (r : List Bool) : ∀ c ∈ r.map encT, ∀ x ∈ c, Plain x := by
  intro c hc v hv
  obtain ⟨x, _, rfl⟩ := List.mem_map.1 hc
  simp only [encT, List.mem_cons, List.not_mem_nil, or_false] at hv
  subst hv; exact plain_bool _
theorem exp_mat {n : Nat} {T : List (List Bool)} (hT : Sq n T) : exp expFuel (mat n n T) (.ref 0 0 n n) = some (matC T) := by
  show exp (39 + 1) _ _ = _
  rw [exp_ref]
  simp only [mat, List.getElem?_cons_zero, rowC, Nat.zero_add, refsRow_len, Nat.le_refl, if_true, List.drop_zero]
  rw [List.take_of_length_le (by rw [refsRow_len]; omega)]
  have h1 : ∀ i, i < n → omap (exp 39 (.row (refsRow 1 n n n) 1 true :: T.map rowT)) (refAt 1 n n i) = some [.lst ((T.getD i []).map encT)] := by
    intro i hi
    obtain ⟨r, e1, e2, e3, e4⟩ := hT.walk.get i hi
    rw [refAt, if_pos hi, omap_cons', omap_nil']
    show (exp (38 + 1) _ _).bind _ = _
    rw [exp_ref, List.getElem?_cons_succ, e3, rowC, List.length_map, e2, if_pos (by omega), List.drop_zero, List.take_of_length_le (by rw [List.length_map]; omega), plainss (plainT r), e1]
    rfl
  have h2 : omap (omap (exp 39 (.row (refsRow 1 n n n) 1 true :: T.map rowT))) (refsRow 1 n n n) = some ((List.range n).map fun i => [.lst ((T.getD i []).map encT)]) := by
    rw [refsRow]
    have : ∀ (l : List Nat), (∀ i ∈ l, i < n) → omap (omap (exp 39 (.row (refsRow 1 n n n) 1 true :: T.map rowT))) (l.map (refAt 1 n n)) = some (l.map fun i => [.lst ((T.getD i []).map encT)]) := by
      intro l
      induction l with
      | nil => intro _; rfl
      | cons i l ih => intro hl; rw [List.map_cons, omap_cons', h1 i (hl i List.mem_cons_self), ih (fun j hj => hl j (List.mem_cons_of_mem _ hj))]; rfl
    exact this _ (fun i hi => by simpa using hi)
  rw [h2]
  simp only [Option.map_some, matC]
  congr 2
  apply List.ext_getElem?
  intro i
  rw [List.getElem?_map, List.getElem?_map]
  by_cases hi : i < n
  · obtain ⟨r, e1, e2, e3⟩ := hT.row hi
    rw [List.getElem?_range hi, e1, Option.map_some, Option.map_some, e2]
  · rw [List.getElem?_eq_none (by simp; omega), List.getElem?_eq_none (by rw [hT.1]; omega)]; rfl
set_option maxHeartbeats 8000000 in
theorem joined_call (n : Nat) (hn : n ≤ 24) (q : PV) (l : List (Nat × Nat)) (hq : Sl q (l.map enc2N)) (hok : okL n l) (hl : l.length ≤ 64) (f : FuncId) (caps : List PV) (used : Nat → Bool) (hf : Clo f caps used l.length) :
    pureCall hints L1 14 [.int .i64 n, q, .func f [] caps] = some (matC (joinedF used n l)) := by
  refine pure_of prim14 (Holds.mono (Q := fun r => r = (.ref 0 0 n n, mat n n (joinedF used n l))) ?_ fun r hr => by rw [hr]; exact exp_mat (joinedF_sq hok))
  obtain ⟨a1, a2, a3, a4, a5, a6, a7⟩ := hq.ids
  have hid := hf.ids
  have hco := hf.ok
  have hlen := fun H => len_sl (P := Try.prog) (H := H) hq slZ22
  rw [List.length_map] at hlen
  have hby : 24 * n ≤ 281474976710656 := by omega
  have hcap : n < 9223372036854775808 := by omega
  have hr0 : List.replicate n [PV.nils] = refsRow 1 n 0 n := (refsRow_zero 1 n n).symm
  have hcm := fun tm h1 h2 => (compact_rows0 (tm := tm) (n := n) (k := 0) (w := n) (mm := true) (rows := []) rfl (by omega) (by simp) h1 h2).1
  refine rn_rule (fn := Try.f14) (code := bodyOf Try.f14) ok14 Try.func14 (by kernel_rfl) (Nat.le_of_ble_eq_true (by kernel_rfl)) ?_
  have hlr := fun H id i n m => len_ref (P := Try.prog) (H := H) slZ31 id i n m
  simp (decide := true) (implicitDefEqProofs := false) only [Am.findLoop, Am.loopOf, Am.bodyOf, Am.firstReg, Nat.beq, cond_true, cond_false, Am.splice, Am.walkW, Am.stdW, id, reduceCtorEq, Nat.reduceAdd, Nat.reduceSub, Nat.reduceMul, List.forall_mem_cons, List.forall_mem_nil, false_implies, implies_true, Try.f14, factsOf14, makeSlice_nat, hby, hcap, hr0, hlr]
  simp only [holds_bind]
  refine (joined_1 n hn q l hq f caps used hf 0 _ (by omega) ?_).mono ?_
  · show maskK (hints.keep 14 3) _ _ = _
    simp (decide := true) (implicitDefEqProofs := false) only [Am.findLoop, Am.loopOf, Am.bodyOf, Am.firstReg, Nat.beq, cond_true, cond_false, Am.splice, Am.walkW, Am.stdW, id, reduceCtorEq, Nat.reduceAdd, Nat.reduceSub, Nat.reduceMul, List.forall_mem_cons, List.forall_mem_nil, false_implies, implies_true, Try.f14, factsOf14, keep14_3, canonJ1, mat, hcm, a1, a2, hid, hco, Am.idsT, Am.idsW, Am.kstdW]
    rfl
  · rintro ⟨e, s'⟩ ⟨h5, h6⟩
    cases h5
    rw [keepB14_0] at h6
    simp (decide := true) (implicitDefEqProofs := false) only [Am.findLoop, Am.loopOf, Am.bodyOf, Am.firstReg, Nat.beq, cond_true, cond_false, Am.splice, Am.walkW, Am.stdW, id, reduceCtorEq, Nat.reduceAdd, Nat.reduceSub, Nat.reduceMul, List.forall_mem_cons, List.forall_mem_nil, false_implies, implies_true, Try.f14, factsOf14, h6, hlen]
    simp only [holds_bind]
    have hI := idRows_sq n
    refine (joined_2 n hn q l hq hok hl f caps used hf (0, (List.range n).map (idRow n)) _ ⟨by omega, hI⟩ ?_).mono ?_
    · have hk1 := fun tm h1 h2 => (hI.walk.keep tm h1 h2).1
      show maskK (hints.keep 14 9) _ _ = _
      simp (decide := true) (implicitDefEqProofs := false) only [Am.findLoop, Am.loopOf, Am.bodyOf, Am.firstReg, Nat.beq, cond_true, cond_false, Am.splice, Am.walkW, Am.stdW, id, reduceCtorEq, Nat.reduceAdd, Nat.reduceSub, Nat.reduceMul, List.forall_mem_cons, List.forall_mem_nil, false_implies, implies_true, Try.f14, factsOf14, keep14_9, canonJ2, mat, hk1, a1, a2, hid, hco, Am.idsT, Am.idsW, Am.kstdW]
      rfl
    · rintro ⟨e, s'⟩ ⟨h5, h6⟩
      cases h5
      rw [keepB14_2] at h6
      simp only [List.drop_zero] at h6
      simp (decide := true) (implicitDefEqProofs := false) only [Am.findLoop, Am.loopOf, Am.bodyOf, Am.firstReg, Nat.beq, cond_true, cond_false, Am.splice, Am.walkW, Am.stdW, id, reduceCtorEq, Nat.reduceAdd, Nat.reduceSub, Nat.reduceMul, List.forall_mem_cons, List.forall_mem_nil, false_implies, implies_true, Try.f14, factsOf14, h6]
      simp only [holds_bind]
      have hJ := joinE_sq (used := used) 0 hok hI
      refine (joined_m n hn (0, joinE used 0 l ((List.range n).map (idRow n))) _ ⟨by omega, hJ⟩ ?_).mono ?_
      · have hk1 := fun tm h1 h2 => (hJ.walk.keep tm h1 h2).1
        show maskK (hints.keep 14 15) _ _ = _
        simp (decide := true) (implicitDefEqProofs := false) only [Am.findLoop, Am.loopOf, Am.bodyOf, Am.firstReg, Nat.beq, cond_true, cond_false, Am.splice, Am.walkW, Am.stdW, id, reduceCtorEq, Nat.reduceAdd, Nat.reduceSub, Nat.reduceMul, List.forall_mem_cons, List.forall_mem_nil, false_implies, implies_true, Try.f14, factsOf14, keep14_15, canonM, mat, hk1, Am.idsT, Am.idsW, Am.kstdW]
        rfl
      · rintro ⟨e, s'⟩ ⟨h5, h6⟩
        cases h5
        rw [keepB14_4] at h6
        simp only [Nat.sub_zero] at h6
        simp (decide := true) (implicitDefEqProofs := false) only [Am.findLoop, Am.loopOf, Am.bodyOf, Am.firstReg, Nat.beq, cond_true, cond_false, Am.splice, Am.walkW, Am.stdW, id, reduceCtorEq, Nat.reduceAdd, Nat.reduceSub, Nat.reduceMul, List.forall_mem_cons, List.forall_mem_nil, false_implies, implies_true, Try.f14, factsOf14, h6]
        rfl
end Go.Proofs.Ytcclbkkgpcpikaa
