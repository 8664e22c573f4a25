import Derived.Test.YtcclbkkgpcpikaaI1
set_option linter.unusedSimpArgs false
set_option linter.unusedVariables false
namespace Go.Proofs.Ytcclbkkgpcpikaa
open Go.Am
set_option maxRecDepth 100000
/-- What the search keeps. -/
structure InvP (n : Nat) (out : List Int) (todo : List Nat) : Prop where
  len : out.length = n
  sum : cnt out + todo.length ≤ n
  lab : ∀ v ∈ todo, v < n ∧ ∃ d : Nat, out[v]? = some (d : Int)
  bnd : ∀ (v d : Nat), out[v]? = some (d : Int) → d + cnt out + 1 ≤ n
theorem edgesF_get {wo : Int} {at_ m : Nat} : ∀ (l : List (Nat × Nat)) (k : Nat) (out : List Int) (todo : List Nat) (v : Nat) (d : Nat), out[v]? = some (d : Int) → (edgesF wo at_ m k l out todo).1[v]? = some (d : Int)
  | [], _, _, _, _, _, h => h
  | x :: r, k, out, todo, v, d, h => by
    rw [edgesF]
    split
    · rename_i hc
      simp only [Bool.and_eq_true] at hc
      apply edgesF_get
      rw [List.getElem?_set_ne, h]
      rintro rfl
      have := hc.2
      unfold negAt at this
      rw [List.getD_eq_getElem?_getD, h] at this
      simp at this; omega
    · exact edgesF_get r _ _ _ _ _ h
theorem edgesF_inv {at_ m n : Nat} (hn : n ≤ 1000) : ∀ (l : List (Nat × Nat)) (k : Nat) (out : List Int) (todo : List Nat), out.length = n → cnt out + todo.length ≤ n → (∀ v ∈ todo, v < n ∧ ∃ d : Nat, out[v]? = some (d : Int)) → (∀ (v d : Nat), out[v]? = some (d : Int) → d + cnt out + 1 ≤ n) → m + cnt out ≤ n →
    InvP n (edgesF (-1) at_ m k l out todo).1 (edgesF (-1) at_ m k l out todo).2
  | [], _, _, _, h1, h2, h3, h4, _ => ⟨h1, h2, h3, h4⟩
  | x :: r, k, out, todo, h1, h2, h3, h4, h5 => by
    rw [edgesF]
    split
    · rename_i hc
      simp only [Bool.and_eq_true] at hc
      have hlt := negAt_lt hc.2
      have hcs := cnt_set m hc.2
      refine edgesF_inv hn r (k + 1) _ _ (by rw [List.length_set]; exact h1) (by simp only [List.length_append, List.length_cons, List.length_nil]; omega) ?_ ?_ (by omega)
      · intro v hv
        rcases List.mem_append.1 hv with hv | hv
        · obtain ⟨hv1, d, hd⟩ := h3 v hv
          refine ⟨hv1, ?_⟩
          by_cases e : oth x at_ = v
          · subst e; exact ⟨m, by rw [List.getElem?_set_self hlt]⟩
          · exact ⟨d, by rw [List.getElem?_set_ne e, hd]⟩
        · rw [List.mem_singleton.1 hv]
          exact ⟨by omega, m, by rw [List.getElem?_set_self hlt]⟩
      · intro v d hd
        by_cases e : oth x at_ = v
        · subst e
          rw [List.getElem?_set_self hlt] at hd
          have : m = d := by simp at hd; omega
          omega
        · rw [List.getElem?_set_ne e] at hd
          have := h4 v d hd
          omega
    · exact edgesF_inv hn r (k + 1) _ _ h1 h2 h3 h4 h5
def postP4 (n : Nat) (q pe : PV) (l : List (Nat × Nat)) (fr to : Nat) (out : List Int) (todo : List Nat) (r : Ex × St) : Prop :=
  r.1 = .exit 0 ∧ ∀ f, cnt out + todo.length ≤ f → maskK (hints.keepB 56 0) ⟨56, 0, 139⟩ r.2 = some (canonP0 n q pe fr to (drainP l f out todo))
set_option maxHeartbeats 8000000 in
theorem path_while (n : Nat) (hn : n ≤ 24) (q : PV) (l : List (Nat × Nat)) (hq : Sl q (l.map enc2N)) (hok : okL n l) (hl : l.length ≤ 64) (fr to : Nat) : ∀ (a : List Int × List Nat × List Nat) (t : St), InvP n a.1 a.2.2 →
    maskK (hints.keep 56 (firstReg (loopOf Try.f56 4))) ⟨56, 0, 139⟩ t = some (canonP4 n q (.lst ((List.range l.length).map encN)) fr to a.1 a.2.1 a.2.2) →
    Holds (L1.ex ⟨56, 0, 139⟩ (.loop (loopOf Try.f56 4)) t) (postP4 n q (.lst ((List.range l.length).map encN)) l fr to a.1 a.2.2) := by
  refine loop_rule (σ := List Int × List Nat × List Nat) (c := ⟨56, 0, 139⟩) (b := loopOf Try.f56 4) (fun a => canonP4 n q (.lst ((List.range l.length).map encN)) fr to a.1 a.2.1 a.2.2) (fun a => InvP n a.1 a.2.2) (fun a => cnt a.1 + a.2.2.length) _ ?_
  rintro ⟨out, pre, todo⟩ hI
  simp only at hI
  obtain ⟨a1, a2, a3, a4, a5, a6, a7⟩ := hq.ids
  have f1 := flatI out 1 true
  have f2 := flatN (pre ++ todo) 1 true
  have hlen := fun H => len_lst (P := Try.prog) (H := H) slZ24 ((List.range l.length).map encN)
  rw [List.length_map, List.length_range] at hlen
  have hlr := fun H id i n m => len_ref (P := Try.prog) (H := H) slZ24 id i n m
  cases todo with
  | nil =>
    simp (decide := true) (implicitDefEqProofs := false) only [Am.findLoop, Am.loopOf, Am.bodyOf, Am.firstReg, Nat.beq, cond_true, cond_false, Am.splice, Am.walkW, Am.stdW, id, reduceCtorEq, Nat.reduceAdd, Nat.reduceSub, Nat.reduceMul, List.forall_mem_cons, List.forall_mem_nil, false_implies, implies_true, Try.f56, factsOf56, canonP4, hlr, a7]
    refine ⟨rfl, fun f hf => ?_⟩
    have hd : drainP l f out [] = out := by cases f <;> rfl
    rw [hd]
    rw [List.append_nil] at f2
    simp (decide := true) (implicitDefEqProofs := false) only [Am.findLoop, Am.loopOf, Am.bodyOf, Am.firstReg, Nat.beq, cond_true, cond_false, Am.splice, Am.walkW, Am.stdW, id, reduceCtorEq, Nat.reduceAdd, Nat.reduceSub, Nat.reduceMul, List.forall_mem_cons, List.forall_mem_nil, false_implies, implies_true, Try.f56, factsOf56, canonP0, f1, f2, a1, a2, a3, a4, a5, a6, a7, List.append_nil, Am.compactK, Am.idsT, Am.closeStep, Am.keepW, Am.kstdW]
  | cons v rest =>
    obtain ⟨hvn, d, hd⟩ := hI.lab v List.mem_cons_self
    have hdb := hI.bnd v d hd
    have hsum := hI.sum
    simp only [List.length_cons] at hsum
    have hrow : pre ++ v :: rest = (pre ++ [v]) ++ rest := by simp
    rw [hrow] at f2
    have hg0 : ((pre ++ [v] ++ rest).map encN)[pre.length]? = some [.int .i64 (v : Nat)] := by simp [encN]
    have hpos : decide ((0 : Int) < ((rest.length + 1 : Nat) : Int)) = true := decide_eq_true (by omega)
    have hb1 : (0 : Int) < ((rest.length + 1 : Nat) : Int) := by omega
    have hb2 : (1 : Int) ≤ ((rest.length + 1 : Nat) : Int) := by omega
    simp (decide := true) (implicitDefEqProofs := false) only [Am.findLoop, Am.loopOf, Am.bodyOf, Am.firstReg, Nat.beq, cond_true, cond_false, Am.splice, Am.walkW, Am.stdW, id, reduceCtorEq, Nat.reduceAdd, Nat.reduceSub, Nat.reduceMul, List.forall_mem_cons, List.forall_mem_nil, false_implies, implies_true, Try.f56, factsOf56, canonP4, hrow, hlr, hlen, a7, hg0, hpos, hb1, hb2, Am.sliceW]
    simp only [holds_bind]
    refine (path_edges n hn q l hq hok hl fr to v d hvn (by omega) (0, out, pre ++ [v], rest) _ ⟨by omega, hI.len, by simp only; omega, hd⟩ ?_).mono ?_
    · show maskK (hints.keep 56 8) _ _ = _
      simp (decide := true) (implicitDefEqProofs := false) only [Am.findLoop, Am.loopOf, Am.bodyOf, Am.firstReg, Nat.beq, cond_true, cond_false, Am.splice, Am.walkW, Am.stdW, id, reduceCtorEq, Nat.reduceAdd, Nat.reduceSub, Nat.reduceMul, List.forall_mem_cons, List.forall_mem_nil, false_implies, implies_true, Try.f56, factsOf56, keep56_8, canonP8, f1, f2, a1, a2, a3, a4, a5, a6, a7, Am.compactK, Am.idsT, Am.closeStep, Am.keepW, Am.kstdW]
      simp only [Nat.add_sub_cancel, List.length_append, List.length_cons, List.length_nil, Nat.zero_add]
      rfl
    · rintro ⟨e, s'⟩ ⟨h5, pre', h6⟩
      cases h5
      rw [keepB56_2] at h6
      have g1 := edgesF_inv (at_ := v) (m := d + 1) (by omega) l 0 out rest hI.len (by omega) (fun w hw => hI.lab w (List.mem_cons_of_mem _ hw)) hI.bnd (by omega)
      have g2 := edgesF_cnt (-1) v (d + 1) l 0 out rest
      have hdr : ∀ f, drainP l (f + 1) out (v :: rest) = drainP l f (edgesF (-1) v (d + 1) 0 l out rest).1 (edgesF (-1) v (d + 1) 0 l out rest).2 := fun f => by
        rw [drainP, List.getD_eq_getElem?_getD, hd]; rfl
      simp only [List.drop_zero] at h6
      generalize edgesF (-1) v (d + 1) 0 l out rest = E at h6 g1 g2 hdr
      obtain ⟨out', todo'⟩ := E
      simp only at h6 g1 g2 hdr
      have f5 := flatI out' 1 true
      have f6 := flatN (pre' ++ todo') 1 true
      simp (decide := true) (implicitDefEqProofs := false) only [Am.findLoop, Am.loopOf, Am.bodyOf, Am.firstReg, Nat.beq, cond_true, cond_false, Am.splice, Am.walkW, Am.stdW, id, reduceCtorEq, Nat.reduceAdd, Nat.reduceSub, Nat.reduceMul, List.forall_mem_cons, List.forall_mem_nil, false_implies, implies_true, Try.f56, factsOf56, h6, canonP4, keep56_4, f5, f6, a1, a2, a3, a4, a5, a6, a7, Am.compactK, Am.idsT, Am.closeStep, Am.keepW, Am.kstdW]
      refine ⟨(out', pre', todo'), rfl, g1, by simp only [List.length_cons]; omega, ?_⟩
      rintro r ⟨h7, h8⟩
      refine ⟨h7, fun f hf => ?_⟩
      obtain ⟨f, rfl⟩ : ∃ k, f = k + 1 := ⟨f - 1, by simp only [List.length_cons] at hf; omega⟩
      rw [hdr]
      exact h8 f (by simp only [List.length_cons] at hf; simp only; omega)
/-! the way back -/
def goodK (l : List (Nat × Nat)) (far : List Int) (at_ k : Nat) : Bool := match l[k]? with
  | some x => touch x at_ && decide (far.getD (oth x at_) 0 = far.getD at_ 0 - 1)
  | none => false
def fndK (l : List (Nat × Nat)) (far : List Int) (at_ : Nat) : Nat → Nat → Option Nat
  | 0, _ => none
  | c + 1, k => if goodK l far at_ k = true then some k else fndK l far at_ c (k + 1)
def greedy (l : List (Nat × Nat)) (far : List Int) : Nat → Nat → List Nat
  | 0, _ => []
  | e + 1, at_ => match fndK l far at_ l.length 0 with
    | some k => k :: greedy l far e (oth (l.getD k (0, 0)) at_)
    | none => []
noncomputable def canonQ (n : Nat) (q pe : PV) (to : Nat) (far : List Int) (acc : List Nat) (at_ : Nat) : St := ⟨[(1, q), (2, pe), (4, .int .i64 to), (12, .ref 0 0 n n), (19, accN 1 acc), (20, .int .i64 at_)], .row (far.map encI) 1 true :: accNH acc⟩
noncomputable def canonQ3 (n : Nat) (q pe : PV) (to : Nat) (far : List Int) (acc : List Nat) (at_ len k : Nat) : St := ⟨[(1, q), (2, pe), (4, .int .i64 to), (12, .ref 0 0 n n), (19, accN 1 acc), (20, .int .i64 at_), (95, pe), (96, .int .i64 len), (97, .int .i64 k)], .row (far.map encI) 1 true :: accNH acc⟩
def postQ3 (n : Nat) (q pe : PV) (l : List (Nat × Nat)) (to : Nat) (far : List Int) (acc : List Nat) (at_ : Nat) (o : Option Nat) (r : Ex × St) : Prop :=
  match o with
  | some k => r.1 = .exit 6 ∧ maskK (hints.keepB 56 6) ⟨56, 0, 139⟩ r.2 = some (canonQ n q pe to far (acc ++ [k]) (oth (l.getD k (0, 0)) at_))
  | none => True
set_option maxHeartbeats 8000000 in
theorem path_find (n : Nat) (hn : n ≤ 24) (q : PV) (l : List (Nat × Nat)) (hq : Sl q (l.map enc2N)) (hok : okL n l) (hl : l.length ≤ 64) (to at_ d : Nat) (hat : at_ < n) (hd : d ≤ 1000) (far : List Int) (hfar : far.length = n) (hbig : ∀ v, v < n → -1 ≤ far.getD v 0) (hda : far[at_]? = some (d : Int)) (acc : List Nat) (hacc : acc.length ≤ 1000) : ∀ (k : Nat) (t : St), k ≤ l.length →
    maskK (hints.keep 56 (firstReg (loopOf Try.f56 23))) ⟨56, 0, 139⟩ t = some (canonQ3 n q (.lst ((List.range l.length).map encN)) to far acc at_ l.length k) →
    Holds (L1.ex ⟨56, 0, 139⟩ (.loop (loopOf Try.f56 23)) t) (postQ3 n q (.lst ((List.range l.length).map encN)) l to far acc at_ (fndK l far at_ (l.length - k) k)) := by
  refine loop_rule (σ := Nat) (c := ⟨56, 0, 139⟩) (b := loopOf Try.f56 23) (fun k => canonQ3 n q (.lst ((List.range l.length).map encN)) to far acc at_ l.length k) (fun k => k ≤ l.length) (fun k => l.length - k) _ ?_
  intro k hk
  obtain ⟨a1, a2, a3, a4, a5, a6, a7⟩ := hq.ids
  have f0 := flatI far 1 true
  by_cases hlt : k < l.length
  · have hix := fun H => index_sl (P := Try.prog) (H := H) hq slZ22 (k := .i64) (j := k) (by omega) (get2N hlt) rfl
    have hie := fun H => index_sl (P := Try.prog) (H := H) (.inr rfl : Sl (.lst ((List.range l.length).map encN)) _) slZ24 (k := .i64) (j := k) (by omega) (c := [.int .i64 (k : Nat)]) (by rw [Int.toNat_natCast, List.getElem?_map, List.getElem?_range hlt]; rfl) rfl
    have hlt' : decide ((k : Int) < l.length) = true := decide_eq_true (by omega)
    have hw : IntKind.i64.wrap ((k : Int) + 1) = ((k + 1 : Nat) : Int) := wrap64 (by omega) (by omega)
    have hx := hok _ (List.getElem_mem hlt)
    have hgk : goodK l far at_ k = (touch l[k] at_ && decide (far.getD (oth l[k] at_) 0 = far.getD at_ 0 - 1)) := by
      unfold goodK; rw [List.getElem?_eq_getElem hlt]
    have hfn : fndK l far at_ (l.length - k) k = if goodK l far at_ k = true then some k else fndK l far at_ (l.length - (k + 1)) (k + 1) := by
      obtain ⟨c, hc⟩ : ∃ c, l.length - k = c + 1 := ⟨l.length - k - 1, by omega⟩
      rw [hc, show l.length - (k + 1) = c by omega, fndK]
    have hlk : l.getD k (0, 0) = l[k] := by rw [List.getD_eq_getElem?_getD, List.getElem?_eq_getElem hlt]; rfl
    rw [hfn, hgk]
    unfold postQ3
    rw [show far.getD at_ 0 = (d : Int) by rw [List.getD_eq_getElem?_getD, hda]; rfl]
    generalize hxx : l[k] = x at hix hx hlk
    obtain ⟨a, b⟩ := x
    simp only at hix hx
    have hgat : (far.map encI)[at_]? = some [.int .i64 (d : Nat)] := by rw [List.getElem?_map, hda]; rfl
    have hatn : (at_ : Int) < (n : Int) := by omega
    have hwd : IntKind.i64.wrap ((d : Int) - 1) = (d : Int) - 1 := wrap64 (by omega) (by omega)
    by_cases ct : touch (a, b) at_ = true
    · have hab : a = at_ ∨ b = at_ := by simpa [touch] using ct
      have hs1 : IntKind.i64.wrap ((a : Int) + (b : Int)) = ((a + b : Nat) : Int) := wrap64 (by omega) (by omega)
      have hs2 : IntKind.i64.wrap (((a + b : Nat) : Int) - (at_ : Int)) = ((oth (a, b) at_ : Nat) : Int) := by
        rw [wrap64 (by omega) (by omega)]; simp only [oth]; omega
      have ho : oth (a, b) at_ < n := by simp only [oth]; omega
      rw [ct, Bool.true_and]
      generalize hyy : oth (a, b) at_ = y at hs2 ho
      have hyn : ((y : Nat) : Int) < (n : Int) := by omega
      have hgy := getI (l := far) (i := y) (by omega)
      rw [show far.getD y 0 = far[y] by rw [List.getD_eq_getElem?_getD, List.getElem?_eq_getElem (by omega)]; rfl]
      have hc1 : (!decide ((a : Int) = (at_ : Int))) = true → (!decide ((b : Int) = (at_ : Int))) = false := by
        intro h; simp only [Bool.not_eq_true', decide_eq_false_iff_not] at h; simp only [Bool.not_eq_false', decide_eq_true_eq]; omega
      generalize far[y] = fy at hgy
      cases hcf : decide (fy = (d : Int) - 1) with
      | true =>
        rw [if_pos rfl]
        simp only [hlk, hyy]
        cases acc with
        | nil =>
          have f1 : flatM (.row [[.int .i64 (k : Nat)]] 1 true) = true := flatN [k] 1 true
          cases ha : decide ((a : Int) = (at_ : Int)) with
          | true =>
            simp (decide := true) (implicitDefEqProofs := false) only [Am.findLoop, Am.loopOf, Am.bodyOf, Am.firstReg, Nat.beq, cond_true, cond_false, Am.splice, Am.walkW, Am.stdW, id, reduceCtorEq, Nat.reduceAdd, Nat.reduceSub, Nat.reduceMul, List.forall_mem_cons, List.forall_mem_nil, false_implies, implies_true, Try.f56, factsOf56, canonQ3, accN, accNH, hix, hie, hlt', hgat, hatn, hwd, f0, f1, a1, a2, a3, a4, a5, a6, a7, ha, hs1, hs2, hyn, hgy, hcf, appS_nil, List.replicate_succ, List.replicate_zero, buildSliceM, fillRow, appendF, appendH, src_lst, src_ref, elemsO_row, headOk_one, Nat.le_refl, Am.compactK, Am.idsT, Am.closeStep, Am.keepW, Am.kstdW]
            simp (decide := true) (implicitDefEqProofs := false) only [Am.findLoop, Am.loopOf, Am.bodyOf, Am.firstReg, Nat.beq, cond_true, cond_false, Am.splice, Am.walkW, Am.stdW, id, reduceCtorEq, Nat.reduceAdd, Nat.reduceSub, Nat.reduceMul, List.forall_mem_cons, List.forall_mem_nil, false_implies, implies_true, Try.f56, factsOf56, canonQ, accN, accNH, f0, f1, a1, a2, a3, a4, a5, a6, a7, Am.compactK, Am.idsT, Am.closeStep, Am.keepW, Am.kstdW]
            rfl
          | false =>
            have hb := hc1 (by rw [ha]; rfl)
            simp (decide := true) (implicitDefEqProofs := false) only [Am.findLoop, Am.loopOf, Am.bodyOf, Am.firstReg, Nat.beq, cond_true, cond_false, Am.splice, Am.walkW, Am.stdW, id, reduceCtorEq, Nat.reduceAdd, Nat.reduceSub, Nat.reduceMul, List.forall_mem_cons, List.forall_mem_nil, false_implies, implies_true, Try.f56, factsOf56, canonQ3, accN, accNH, hix, hie, hlt', hgat, hatn, hwd, f0, f1, a1, a2, a3, a4, a5, a6, a7, ha, hb, hs1, hs2, hyn, hgy, hcf, appS_nil, List.replicate_succ, List.replicate_zero, buildSliceM, fillRow, appendF, appendH, src_lst, src_ref, elemsO_row, headOk_one, Nat.le_refl, Am.compactK, Am.idsT, Am.closeStep, Am.keepW, Am.kstdW]
            simp (decide := true) (implicitDefEqProofs := false) only [Am.findLoop, Am.loopOf, Am.bodyOf, Am.firstReg, Nat.beq, cond_true, cond_false, Am.splice, Am.walkW, Am.stdW, id, reduceCtorEq, Nat.reduceAdd, Nat.reduceSub, Nat.reduceMul, List.forall_mem_cons, List.forall_mem_nil, false_implies, implies_true, Try.f56, factsOf56, canonQ, accN, accNH, f0, f1, a1, a2, a3, a4, a5, a6, a7, Am.compactK, Am.idsT, Am.closeStep, Am.keepW, Am.kstdW]
            rfl
        | cons z acc =>
          have f1 := flatN (z :: acc) 1 true
          have f2 := flatN (z :: acc ++ [k]) 1 true
          have hap : ∀ H : List Mem, H[1]? = some (.row ((z :: acc).map encN) 1 true) → appendS H 1 8 (.ref 1 0 (acc.length + 1) (acc.length + 1)) [[.int .i64 k]] = some (.ref H.length 0 (acc.length + 1 + 1) (acc.length + 1 + 1), H.set 1 .dead ++ [.row ((z :: acc ++ [k]).map encN) 1 true]) := by
            intro H hH
            rw [List.map_append]
            exact appS_full hH (by simp) (by simp only [List.length_cons] at hacc; omega) _
          simp only [List.map_cons, List.cons_append] at f1 f2 hap
          cases ha : decide ((a : Int) = (at_ : Int)) with
          | true =>
            simp (decide := true) (implicitDefEqProofs := false) only [Am.findLoop, Am.loopOf, Am.bodyOf, Am.firstReg, Nat.beq, cond_true, cond_false, Am.splice, Am.walkW, Am.stdW, id, reduceCtorEq, Nat.reduceAdd, Nat.reduceSub, Nat.reduceMul, List.forall_mem_cons, List.forall_mem_nil, false_implies, implies_true, Try.f56, factsOf56, canonQ3, accN, accNH, hix, hie, hlt', hgat, hatn, hwd, f0, f1, f2, a1, a2, a3, a4, a5, a6, a7, ha, hs1, hs2, hyn, hgy, hcf, hap, List.replicate_succ, List.replicate_zero, buildSliceM, fillRow, appendF, appendH, src_lst, src_ref, elemsO_row, headOk_one, Nat.le_refl, Am.compactK, Am.idsT, Am.closeStep, Am.keepW, Am.kstdW]
            simp (decide := true) (implicitDefEqProofs := false) only [Am.findLoop, Am.loopOf, Am.bodyOf, Am.firstReg, Nat.beq, cond_true, cond_false, Am.splice, Am.walkW, Am.stdW, id, reduceCtorEq, Nat.reduceAdd, Nat.reduceSub, Nat.reduceMul, List.forall_mem_cons, List.forall_mem_nil, false_implies, implies_true, Try.f56, factsOf56, canonQ, accN, accNH, f0, f1, f2, a1, a2, a3, a4, a5, a6, a7, Am.compactK, Am.idsT, Am.closeStep, Am.keepW, Am.kstdW]
            simp only [List.length_append, List.length_cons, List.length_nil]
          | false =>
            have hb := hc1 (by rw [ha]; rfl)
            simp (decide := true) (implicitDefEqProofs := false) only [Am.findLoop, Am.loopOf, Am.bodyOf, Am.firstReg, Nat.beq, cond_true, cond_false, Am.splice, Am.walkW, Am.stdW, id, reduceCtorEq, Nat.reduceAdd, Nat.reduceSub, Nat.reduceMul, List.forall_mem_cons, List.forall_mem_nil, false_implies, implies_true, Try.f56, factsOf56, canonQ3, accN, accNH, hix, hie, hlt', hgat, hatn, hwd, f0, f1, f2, a1, a2, a3, a4, a5, a6, a7, ha, hb, hs1, hs2, hyn, hgy, hcf, hap, List.replicate_succ, List.replicate_zero, buildSliceM, fillRow, appendF, appendH, src_lst, src_ref, elemsO_row, headOk_one, Nat.le_refl, Am.compactK, Am.idsT, Am.closeStep, Am.keepW, Am.kstdW]
            simp (decide := true) (implicitDefEqProofs := false) only [Am.findLoop, Am.loopOf, Am.bodyOf, Am.firstReg, Nat.beq, cond_true, cond_false, Am.splice, Am.walkW, Am.stdW, id, reduceCtorEq, Nat.reduceAdd, Nat.reduceSub, Nat.reduceMul, List.forall_mem_cons, List.forall_mem_nil, false_implies, implies_true, Try.f56, factsOf56, canonQ, accN, accNH, f0, f1, f2, a1, a2, a3, a4, a5, a6, a7, Am.compactK, Am.idsT, Am.closeStep, Am.keepW, Am.kstdW]
            simp only [List.length_append, List.length_cons, List.length_nil]
      | false =>
        rw [if_neg (by simp)]
        cases acc with
        | nil =>
          cases ha : decide ((a : Int) = (at_ : Int)) with
          | true =>
            simp (decide := true) (implicitDefEqProofs := false) only [Am.findLoop, Am.loopOf, Am.bodyOf, Am.firstReg, Nat.beq, cond_true, cond_false, Am.splice, Am.walkW, Am.stdW, id, reduceCtorEq, Nat.reduceAdd, Nat.reduceSub, Nat.reduceMul, List.forall_mem_cons, List.forall_mem_nil, false_implies, implies_true, Try.f56, factsOf56, canonQ3, accN, accNH, hix, hie, hlt', hw, hgat, hatn, hwd, f0, a1, a2, a3, a4, a5, a6, a7, ha, hs1, hs2, hyn, hgy, hcf, keep56_23, Am.compactK, Am.idsT, Am.closeStep, Am.keepW, Am.kstdW]
            exact ⟨k + 1, rfl, hlt, by omega, fun r hr => hr⟩
          | false =>
            have hb := hc1 (by rw [ha]; rfl)
            simp (decide := true) (implicitDefEqProofs := false) only [Am.findLoop, Am.loopOf, Am.bodyOf, Am.firstReg, Nat.beq, cond_true, cond_false, Am.splice, Am.walkW, Am.stdW, id, reduceCtorEq, Nat.reduceAdd, Nat.reduceSub, Nat.reduceMul, List.forall_mem_cons, List.forall_mem_nil, false_implies, implies_true, Try.f56, factsOf56, canonQ3, accN, accNH, hix, hie, hlt', hw, hgat, hatn, hwd, f0, a1, a2, a3, a4, a5, a6, a7, ha, hb, hs1, hs2, hyn, hgy, hcf, keep56_23, Am.compactK, Am.idsT, Am.closeStep, Am.keepW, Am.kstdW]
            exact ⟨k + 1, rfl, hlt, by omega, fun r hr => hr⟩
        | cons z acc =>
          have f1 := flatN (z :: acc) 1 true
          simp only [List.map_cons] at f1
          cases ha : decide ((a : Int) = (at_ : Int)) with
          | true =>
            simp (decide := true) (implicitDefEqProofs := false) only [Am.findLoop, Am.loopOf, Am.bodyOf, Am.firstReg, Nat.beq, cond_true, cond_false, Am.splice, Am.walkW, Am.stdW, id, reduceCtorEq, Nat.reduceAdd, Nat.reduceSub, Nat.reduceMul, List.forall_mem_cons, List.forall_mem_nil, false_implies, implies_true, Try.f56, factsOf56, canonQ3, accN, accNH, hix, hie, hlt', hw, hgat, hatn, hwd, f0, f1, a1, a2, a3, a4, a5, a6, a7, ha, hs1, hs2, hyn, hgy, hcf, keep56_23, Am.compactK, Am.idsT, Am.closeStep, Am.keepW, Am.kstdW]
            exact ⟨k + 1, rfl, hlt, by omega, fun r hr => hr⟩
          | false =>
            have hb := hc1 (by rw [ha]; rfl)
            simp (decide := true) (implicitDefEqProofs := false) only [Am.findLoop, Am.loopOf, Am.bodyOf, Am.firstReg, Nat.beq, cond_true, cond_false, Am.splice, Am.walkW, Am.stdW, id, reduceCtorEq, Nat.reduceAdd, Nat.reduceSub, Nat.reduceMul, List.forall_mem_cons, List.forall_mem_nil, false_implies, implies_true, Try.f56, factsOf56, canonQ3, accN, accNH, hix, hie, hlt', hw, hgat, hatn, hwd, f0, f1, a1, a2, a3, a4, a5, a6, a7, ha, hb, hs1, hs2, hyn, hgy, hcf, keep56_23, Am.compactK, Am.idsT, Am.closeStep, Am.keepW, Am.kstdW]
            exact ⟨k + 1, rfl, hlt, by omega, fun r hr => hr⟩
    · have ct' : touch (a, b) at_ = false := by simpa using ct
      have hab : decide ((a : Int) = (at_ : Int)) = false ∧ decide ((b : Int) = (at_ : Int)) = false := by
        simp only [touch, Bool.or_eq_false_iff, decide_eq_false_iff_not] at ct'; exact ⟨decide_eq_false (by omega), decide_eq_false (by omega)⟩
      rw [ct', Bool.false_and, if_neg (by simp)]
      cases acc with
      | nil =>
        simp (decide := true) (implicitDefEqProofs := false) only [Am.findLoop, Am.loopOf, Am.bodyOf, Am.firstReg, Nat.beq, cond_true, cond_false, Am.splice, Am.walkW, Am.stdW, id, reduceCtorEq, Nat.reduceAdd, Nat.reduceSub, Nat.reduceMul, List.forall_mem_cons, List.forall_mem_nil, false_implies, implies_true, Try.f56, factsOf56, canonQ3, accN, accNH, hix, hie, hlt', hw, f0, a1, a2, a3, a4, a5, a6, a7, hab.1, hab.2, keep56_23, Am.compactK, Am.idsT, Am.closeStep, Am.keepW, Am.kstdW]
        exact ⟨k + 1, rfl, hlt, by omega, fun r hr => hr⟩
      | cons z acc =>
        have f1 := flatN (z :: acc) 1 true
        simp only [List.map_cons] at f1
        simp (decide := true) (implicitDefEqProofs := false) only [Am.findLoop, Am.loopOf, Am.bodyOf, Am.firstReg, Nat.beq, cond_true, cond_false, Am.splice, Am.walkW, Am.stdW, id, reduceCtorEq, Nat.reduceAdd, Nat.reduceSub, Nat.reduceMul, List.forall_mem_cons, List.forall_mem_nil, false_implies, implies_true, Try.f56, factsOf56, canonQ3, accN, accNH, hix, hie, hlt', hw, f0, f1, a1, a2, a3, a4, a5, a6, a7, hab.1, hab.2, keep56_23, Am.compactK, Am.idsT, Am.closeStep, Am.keepW, Am.kstdW]
        exact ⟨k + 1, rfl, hlt, by omega, fun r hr => hr⟩
  · have hlt' : decide ((k : Int) < l.length) = false := decide_eq_false (by omega)
    rw [show l.length - k = 0 by omega]
    simp (decide := true) (implicitDefEqProofs := false) only [Am.findLoop, Am.loopOf, Am.bodyOf, Am.firstReg, Nat.beq, cond_true, cond_false, Am.splice, Am.walkW, Am.stdW, id, reduceCtorEq, Nat.reduceAdd, Nat.reduceSub, Nat.reduceMul, List.forall_mem_cons, List.forall_mem_nil, false_implies, implies_true, Try.f56, factsOf56, canonQ3, hlt', a7]
    trivial
end Go.Proofs.Ytcclbkkgpcpikaa
