import Derived.Test.YtcclbkkgpcpikaaH7
import Derived.Test.YtcclbkkgpcpikaaI5
set_option linter.unusedSimpArgs false
set_option linter.unusedVariables false
namespace Go.Proofs.Ytcclbkkgpcpikaa
open Go.Am
set_option maxRecDepth 100000
/-- A list of numbers that lies in own memory. -/
def OwnN (H : List Mem) (v : PV) (w : List Nat) : Prop := (w = [] ∧ v = .nils) ∨ ∃ i, w ≠ [] ∧ v = .ref i 0 w.length w.length ∧ H[i]? = some (.row (w.map encN) 1 true)
/-- The own memory that the search captures. -/
structure CapH (H : List Mem) (a b c d : Nat) (q fv : PV) (to : Nat) (f : FuncId) : Prop where
  ha : H[a]? = some (.row [[.int .i64 to]] 1 true)
  hb : ∃ m, H[b]? = some (.row [[q]] 1 m)
  hc : ∃ m, H[c]? = some (.row [[fv]] 1 m)
  hd : H[d]? = some (.row [[.func f [] [.ptr a 0 0, .ptr b 0 0, .ptr c 0 0, .ptr d 0 0]]] 1 true)
theorem get_app {H : List Mem} {i : Nat} {m : Mem} (h : H[i]? = some m) (J : List Mem) : (H ++ J)[i]? = some m := by
  rw [List.getElem?_append_left (List.getElem?_eq_some_iff.1 h).1]; exact h
theorem CapH.app {H : List Mem} {a b c d : Nat} {q fv : PV} {to : Nat} {f : FuncId} (h : CapH H a b c d q fv to f) (J : List Mem) : CapH (H ++ J) a b c d q fv to f :=
  ⟨get_app h.ha J, h.hb.imp fun m h => get_app h J, h.hc.imp fun m h => get_app h J, get_app h.hd J⟩
def resB : Option (List Nat) → Bool
  | some _ => true
  | none => false
def resW : Option (List Nat) → List Nat
  | some w => w
  | none => []
def postWk (H : List Mem) (o : Option (List Nat)) (r : PV × List Mem) : Prop := ∃ J v, r = (.tup [v, .bool (resB o)], H ++ J) ∧ OwnN (H ++ J) v (resW o)
noncomputable def canonWk (a b c d : Nat) (q : PV) (at_ left len k : Nat) (H : List Mem) : St :=
  ⟨[(0, .int .i64 at_), (1, .int .i64 left), (2, .ptr a 0 0), (3, .ptr b 0 0), (4, .ptr c 0 0), (5, .ptr d 0 0), (19, q), (20, .int .i64 len), (21, .int .i64 k)], H⟩
def postWl (H : List Mem) (o : Option (List Nat)) (r : Ex × St) : Prop :=
  match o with
  | some w => r.1 = .ret ∧ ∃ J v, r.2.hp = H ++ J ∧ Am.get r.2.tm 8 = some v ∧ Am.get r.2.tm 9 = some (.bool true) ∧ OwnN (H ++ J) v w
  | none => r.1 = .exit 0 ∧ ∃ J, maskK (hints.keepB 58 0) ⟨58, H.length, 62⟩ r.2 = some ⟨[], H ++ J⟩
theorem wTry_len {use : Nat → Bool} {l : List (Nat × Nat)} {rec : Nat → Option (List Nat)} {at_ L : Nat} (hr : ∀ v w, rec v = some w → w.length = L) : ∀ {c k : Nat} {w : List Nat}, wTry use l rec at_ c k = some w → w.length = L + 1
  | 0, _, _, h => by cases h
  | c + 1, k, w, h => by
    rw [wTry] at h
    split at h
    · split at h
      · rename_i w' hw
        cases h
        rw [List.length_cons, hr _ _ hw]
      · exact wTry_len hr h
    · exact wTry_len hr h
theorem walkF_len {use : Nat → Bool} {l : List (Nat × Nat)} {to : Nat} : ∀ {L v : Nat} {w : List Nat}, walkF use l to L v = some w → w.length = L
  | 0, v, w, h => by
    rw [walkF] at h
    split at h
    · cases h; rfl
    · cases h
  | L + 1, v, w, h => by
    rw [walkF] at h
    exact wTry_len (fun v w h => walkF_len h) h
set_option maxHeartbeats 8000000 in
theorem walk_loop (n : Nat) (hn : n ≤ 24) (q : PV) (l : List (Nat × Nat)) (hq : Sl q (l.map enc2N)) (hok : okL n l) (hl : l.length ≤ 64) (f : FuncId) (caps : List PV) (used : Nat → Bool) (hf : Clo f caps used l.length) (to : Nat)
    (L : Nat) (hL : L ≤ 1000) (ih : ∀ (H : List Mem) (at_ : Nat) (a b c d : Nat), at_ < n → CapH H a b c d q (.func f [] caps) to 58 → Holds (L1.rn 58 [.int .i64 at_, .int .i64 L, .ptr a 0 0, .ptr b 0 0, .ptr c 0 0, .ptr d 0 0] H) (postWk H (walkF used l to L at_)))
    (H0 : List Mem) (at_ : Nat) (a b c d : Nat) (hat : at_ < n) : ∀ (s : Nat × List Mem) (t : St), (s.1 ≤ l.length ∧ CapH (H0 ++ s.2) a b c d q (.func f [] caps) to 58) →
    maskK (hints.keep 58 (firstReg (loopOf Try.f58 4))) ⟨58, H0.length, 62⟩ t = some (canonWk a b c d q at_ (L + 1) l.length s.1 (H0 ++ s.2)) →
    Holds (L1.ex ⟨58, H0.length, 62⟩ (.loop (loopOf Try.f58 4)) t) (postWl H0 (wTry used l (walkF used l to L) at_ (l.length - s.1) s.1)) := by
  refine loop_rule (σ := Nat × List Mem) (c := ⟨58, H0.length, 62⟩) (b := loopOf Try.f58 4) (fun s => canonWk a b c d q at_ (L + 1) l.length s.1 (H0 ++ s.2)) (fun s => s.1 ≤ l.length ∧ CapH (H0 ++ s.2) a b c d q (.func f [] caps) to 58) (fun s => l.length - s.1) _ ?_
  rintro ⟨k, J⟩ ⟨hk, hC⟩
  simp only at hk hC
  generalize hH : H0 ++ J = H at hC
  by_cases hlt : k < l.length
  · have hix := fun H => index_sl (P := Try.prog) (H := H) hq slZ22 (k := .i64) (j := k) (by omega) (get2N hlt) rfl
    have hlt' : decide ((k : Int) < l.length) = true := decide_eq_true (by omega)
    have hw : IntKind.i64.wrap ((k : Int) + 1) = ((k + 1 : Nat) : Int) := wrap64 (by omega) (by omega)
    have hwl : IntKind.i64.wrap (((L + 1 : Nat) : Int) - 1) = ((L : Nat) : Int) := by rw [wrap64 (by omega) (by omega)]; omega
    have hx := hok _ (List.getElem_mem hlt)
    have hcall := hf.call k hlt
    have hlk : l.getD k (0, 0) = l[k] := by rw [List.getD_eq_getElem?_getD, List.getElem?_eq_getElem hlt]; rfl
    have hfn : wTry used l (walkF used l to L) at_ (l.length - k) k = if (used k && touch l[k] at_) = true then (match walkF used l to L (oth l[k] at_) with | some w => some (k :: w) | none => wTry used l (walkF used l to L) at_ (l.length - (k + 1)) (k + 1)) else wTry used l (walkF used l to L) at_ (l.length - (k + 1)) (k + 1) := by
      obtain ⟨c, hc⟩ : ∃ c, l.length - k = c + 1 := ⟨l.length - k - 1, by omega⟩
      rw [hc, show l.length - (k + 1) = c by omega, wTry, hlk]; rfl
    rw [hfn]
    generalize l[k] = x at hix hx
    obtain ⟨xa, xb⟩ := x
    simp only at hix hx
    obtain ⟨mb, hb⟩ := hC.hb
    obtain ⟨mc, hc⟩ := hC.hc
    have la := get_app hC.ha
    have lb := get_app hb
    have lc := get_app hc
    have ld := get_app hC.hd
    have l0 : ∀ m : Mem, (H ++ [m])[H.length]? = some m := fun m => by rw [List.getElem?_append_right (Nat.le_refl _), Nat.sub_self]; rfl
    have s0 : ∀ m m' : Mem, (H ++ [m]).set H.length m' = H ++ [m'] := fun m m' => by rw [List.set_append_right _ _ (Nat.le_refl _), Nat.sub_self]; rfl
    cases hu : used k with
    | false =>
      rw [hu] at hcall
      rw [Bool.false_and, if_neg (by simp)]
      simp (decide := true) (implicitDefEqProofs := false) only [Am.findLoop, Am.loopOf, Am.bodyOf, Am.firstReg, Nat.beq, cond_true, cond_false, Am.splice, Am.walkW, Am.stdW, id, reduceCtorEq, Nat.reduceAdd, Nat.reduceSub, Nat.reduceMul, List.forall_mem_cons, List.forall_mem_nil, false_implies, implies_true, Try.f58, factsOf58, canonWk, hix, hlt', hw, la, lb, lc, ld, l0, s0, List.length_append, hcall, hf.opn, hf.imp, hf.mem, hf.exp, keep58_4]
      exact ⟨(k + 1, J ++ [.row [[.int .i64 xa, .int .i64 xb]] 2 true]), by rw [← hH]; simp only [List.append_assoc], ⟨hlt, by rw [← List.append_assoc, hH]; exact hC.app _⟩, by simp only; omega, fun r hr => hr⟩
    | true =>
      rw [hu] at hcall
      rw [Bool.true_and]
      have hw2 : ∀ y : Nat, (∃ w, some w = some y) := fun y => ⟨y, rfl⟩
      by_cases ct : touch (xa, xb) at_ = true
      · rw [if_pos ct]
        have hab : xa = at_ ∨ xb = at_ := by simpa [touch] using ct
        have hs1 : IntKind.i64.wrap ((xa : Int) + (xb : Int)) = ((xa + xb : Nat) : Int) := wrap64 (by omega) (by omega)
        have hs2 : IntKind.i64.wrap (((xa + xb : Nat) : Int) - (at_ : Int)) = ((oth (xa, xb) at_ : Nat) : Int) := by
          rw [wrap64 (by omega) (by omega)]; simp only [oth]; omega
        have ho : oth (xa, xb) at_ < n := by simp only [oth]; omega
        generalize oth (xa, xb) at_ = y at hs2 ho
        have hc1 : (!decide ((xa : Int) = (at_ : Int))) = true → (!decide ((xb : Int) = (at_ : Int))) = false := by
          intro h; simp only [Bool.not_eq_true', decide_eq_false_iff_not] at h; simp only [Bool.not_eq_false', decide_eq_true_eq]; omega
        obtain ⟨r, hr, J', v, hr2, hO⟩ := ih (H ++ [.row [[.int .i64 xa, .int .i64 xb]] 2 true]) y a b c d ho (hC.app _)
        subst hr2
        have hwlen : ∀ w, walkF used l to L y = some w → w.length = L := fun w hw => walkF_len hw
        generalize hoo : walkF used l to L y = o at hr hO hwlen
        have hGG : H ++ [.row [[.int .i64 xa, .int .i64 xb]] 2 true] ++ J' = H0 ++ (J ++ ([.row [[.int .i64 xa, .int .i64 xb]] 2 true] ++ J')) := by rw [← hH]; simp only [List.append_assoc]
        have hCG : CapH (H ++ [.row [[.int .i64 xa, .int .i64 xb]] 2 true] ++ J') a b c d q (.func f [] caps) to 58 := by
          exact (hC.app _).app _
        cases o with
        | none =>
          simp only [resB] at hr
          generalize H ++ [.row [[.int .i64 xa, .int .i64 xb]] 2 true] ++ J' = G at hr hGG hCG
          cases ha : decide ((xa : Int) = (at_ : Int)) with
          | true =>
            simp (decide := true) (implicitDefEqProofs := false) only [Am.findLoop, Am.loopOf, Am.bodyOf, Am.firstReg, Nat.beq, cond_true, cond_false, Am.splice, Am.walkW, Am.stdW, id, reduceCtorEq, Nat.reduceAdd, Nat.reduceSub, Nat.reduceMul, List.forall_mem_cons, List.forall_mem_nil, false_implies, implies_true, Try.f58, factsOf58, canonWk, opn58, hix, hlt', hw, hwl, la, lb, lc, ld, l0, s0, List.length_append, hcall, hf.opn, hf.imp, hf.mem, hf.exp, ha, hs1, hs2, hr, keep58_4]
            exact ⟨(k + 1, J ++ ([.row [[.int .i64 xa, .int .i64 xb]] 2 true] ++ J')), by rw [hGG], ⟨hlt, by rw [← hGG]; exact hCG⟩, by simp only; omega, fun r hr => hr⟩
          | false =>
            have hb2 := hc1 (by rw [ha]; rfl)
            simp (decide := true) (implicitDefEqProofs := false) only [Am.findLoop, Am.loopOf, Am.bodyOf, Am.firstReg, Nat.beq, cond_true, cond_false, Am.splice, Am.walkW, Am.stdW, id, reduceCtorEq, Nat.reduceAdd, Nat.reduceSub, Nat.reduceMul, List.forall_mem_cons, List.forall_mem_nil, false_implies, implies_true, Try.f58, factsOf58, canonWk, opn58, hix, hlt', hw, hwl, la, lb, lc, ld, l0, s0, List.length_append, hcall, hf.opn, hf.imp, hf.mem, hf.exp, ha, hb2, hs1, hs2, hr, keep58_4]
            exact ⟨(k + 1, J ++ ([.row [[.int .i64 xa, .int .i64 xb]] 2 true] ++ J')), by rw [hGG], ⟨hlt, by rw [← hGG]; exact hCG⟩, by simp only; omega, fun r hr => hr⟩
        | some w =>
          have hwl2 := hwlen w rfl
          simp only [resB, resW] at hr hO
          generalize H ++ [.row [[.int .i64 xa, .int .i64 xb]] 2 true] ++ J' = G at hr hGG hCG hO
          have lG : ∀ m : Mem, (G ++ [m])[G.length]? = some m := fun m => by rw [List.getElem?_append_right (Nat.le_refl _), Nat.sub_self]; rfl
          have sG : ∀ m m' : Mem, (G ++ [m]).set G.length m' = G ++ [m'] := fun m m' => by rw [List.set_append_right _ _ (Nat.le_refl _), Nat.sub_self]; rfl
          have fin : ∀ (s : St), s.hp = G ++ [.row [[.int .i64 (k : Nat)]] 1 true] → Am.get s.tm 9 = some (.bool true) → Am.get s.tm 8 = some (.ref G.length 0 1 1) → w = [] → postWl H0 (some (k :: w)) (.ret, s) := by
            intro s h1 h2 h3 h4
            refine ⟨rfl, J ++ ([.row [[.int .i64 xa, .int .i64 xb]] 2 true] ++ J') ++ [.row [[.int .i64 (k : Nat)]] 1 true], _, ?_, h3, h2, ?_⟩
            · rw [h1, hGG]; simp only [List.append_assoc]
            · rw [← List.append_assoc, ← hGG, h4]
              exact .inr ⟨G.length, by simp, rfl, lG _⟩
          have fin2 : ∀ (s : St), s.hp = (G ++ [.dead]) ++ [.row ([.int .i64 (k : Nat)] :: w.map encN) 1 true] → Am.get s.tm 9 = some (.bool true) → Am.get s.tm 8 = some (.ref (G.length + 1) 0 (1 + w.length) (1 + w.length)) → postWl H0 (some (k :: w)) (.ret, s) := by
            intro s h1 h2 h3
            refine ⟨rfl, J ++ ([.row [[.int .i64 xa, .int .i64 xb]] 2 true] ++ J') ++ [.dead] ++ [.row ([.int .i64 (k : Nat)] :: w.map encN) 1 true], _, ?_, h3, h2, ?_⟩
            · rw [h1, hGG]; simp only [List.append_assoc]
            · rw [← List.append_assoc, ← List.append_assoc, ← hGG]
              refine .inr ⟨G.length + 1, by simp, by rw [List.length_cons, Nat.add_comm w.length 1], ?_⟩
              rw [List.getElem?_append_right (by simp)]
              simp [encN]
          rcases hO with ⟨rfl, rfl⟩ | ⟨i, hwn, rfl, hi⟩
          · have hsrc : ∀ H : List Mem, srcOf H .nils = some [] := fun _ => rfl
            have hap : appendS (G ++ [.row [[.int .i64 (k : Nat)]] 1 true]) 1 8 (.ref G.length 0 1 1) [] = some (.ref G.length 0 1 1, G ++ [.row [[.int .i64 (k : Nat)]] 1 true]) := by
              simp [appendS]
            have hho : headOk [] 1 = true := rfl
            cases ha : decide ((xa : Int) = (at_ : Int)) with
            | true =>
              simp (decide := true) (implicitDefEqProofs := false) only [Am.findLoop, Am.loopOf, Am.bodyOf, Am.firstReg, Nat.beq, cond_true, cond_false, Am.splice, Am.walkW, Am.stdW, id, reduceCtorEq, Nat.reduceAdd, Nat.reduceSub, Nat.reduceMul, List.forall_mem_cons, List.forall_mem_nil, false_implies, implies_true, Try.f58, factsOf58, canonWk, opn58, hix, hlt', hw, hwl, la, lb, lc, ld, l0, s0, lG, List.length_append, hcall, hf.opn, hf.imp, hf.mem, hf.exp, ha, hs1, hs2, hr, hsrc, hap, hho, List.replicate_succ, List.replicate_zero, buildSliceM, fillRow, appendF, appendH, keep58_4]
              exact fin _ rfl rfl rfl rfl
            | false =>
              have hb2 := hc1 (by rw [ha]; rfl)
              simp (decide := true) (implicitDefEqProofs := false) only [Am.findLoop, Am.loopOf, Am.bodyOf, Am.firstReg, Nat.beq, cond_true, cond_false, Am.splice, Am.walkW, Am.stdW, id, reduceCtorEq, Nat.reduceAdd, Nat.reduceSub, Nat.reduceMul, List.forall_mem_cons, List.forall_mem_nil, false_implies, implies_true, Try.f58, factsOf58, canonWk, opn58, hix, hlt', hw, hwl, la, lb, lc, ld, l0, s0, lG, List.length_append, hcall, hf.opn, hf.imp, hf.mem, hf.exp, ha, hb2, hs1, hs2, hr, hsrc, hap, hho, List.replicate_succ, List.replicate_zero, buildSliceM, fillRow, appendF, appendH, keep58_4]
              exact fin _ rfl rfl rfl rfl
          · have hsrc : srcOf (G ++ [.row [[.int .i64 (k : Nat)]] 1 true]) (.ref i 0 w.length w.length) = some (w.map encN) := by
              rw [src_ref, get_app hi, elemsO_row, List.length_map, if_pos (by omega), List.drop_zero, List.take_of_length_le (by simp)]
            have hap : appendS (G ++ [.row [[.int .i64 (k : Nat)]] 1 true]) 1 8 (.ref G.length 0 1 1) (w.map encN) = some (.ref (G.length + 1) 0 (1 + w.length) (1 + w.length), (G ++ [.dead]) ++ [.row ([.int .i64 (k : Nat)] :: w.map encN) 1 true]) := by
              have hem : (w.map encN).isEmpty = false := by
                cases w with
                | nil => exact absurd rfl hwn
                | cons _ _ => rfl
              have hpos : 0 < w.length := List.length_pos_iff.2 hwn
              simp only [appendS, lG, sG, hem, List.length_map, Bool.false_eq_true, if_false]
              rw [if_pos ⟨trivial, by simp⟩, if_neg (by omega), if_pos (by omega)]
              simp
            have hho : headOk (w.map encN) 1 = true := by cases w <;> rfl
            cases ha : decide ((xa : Int) = (at_ : Int)) with
            | true =>
              simp (decide := true) (implicitDefEqProofs := false) only [Am.findLoop, Am.loopOf, Am.bodyOf, Am.firstReg, Nat.beq, cond_true, cond_false, Am.splice, Am.walkW, Am.stdW, id, reduceCtorEq, Nat.reduceAdd, Nat.reduceSub, Nat.reduceMul, List.forall_mem_cons, List.forall_mem_nil, false_implies, implies_true, Try.f58, factsOf58, canonWk, opn58, hix, hlt', hw, hwl, la, lb, lc, ld, l0, s0, lG, List.length_append, hcall, hf.opn, hf.imp, hf.mem, hf.exp, ha, hs1, hs2, hr, hsrc, hap, hho, List.replicate_succ, List.replicate_zero, buildSliceM, fillRow, appendF, appendH, keep58_4]
              exact fin2 _ rfl rfl rfl
            | false =>
              have hb2 := hc1 (by rw [ha]; rfl)
              simp (decide := true) (implicitDefEqProofs := false) only [Am.findLoop, Am.loopOf, Am.bodyOf, Am.firstReg, Nat.beq, cond_true, cond_false, Am.splice, Am.walkW, Am.stdW, id, reduceCtorEq, Nat.reduceAdd, Nat.reduceSub, Nat.reduceMul, List.forall_mem_cons, List.forall_mem_nil, false_implies, implies_true, Try.f58, factsOf58, canonWk, opn58, hix, hlt', hw, hwl, la, lb, lc, ld, l0, s0, lG, List.length_append, hcall, hf.opn, hf.imp, hf.mem, hf.exp, ha, hb2, hs1, hs2, hr, hsrc, hap, hho, List.replicate_succ, List.replicate_zero, buildSliceM, fillRow, appendF, appendH, keep58_4]
              exact fin2 _ rfl rfl rfl
      · have ct' : touch (xa, xb) at_ = false := by simpa using ct
        have hab : decide ((xa : Int) = (at_ : Int)) = false ∧ decide ((xb : Int) = (at_ : Int)) = false := by
          simp only [touch, Bool.or_eq_false_iff, decide_eq_false_iff_not] at ct'; exact ⟨decide_eq_false (by omega), decide_eq_false (by omega)⟩
        rw [if_neg ct]
        simp (decide := true) (implicitDefEqProofs := false) only [Am.findLoop, Am.loopOf, Am.bodyOf, Am.firstReg, Nat.beq, cond_true, cond_false, Am.splice, Am.walkW, Am.stdW, id, reduceCtorEq, Nat.reduceAdd, Nat.reduceSub, Nat.reduceMul, List.forall_mem_cons, List.forall_mem_nil, false_implies, implies_true, Try.f58, factsOf58, canonWk, hix, hlt', hw, la, lb, lc, ld, l0, s0, List.length_append, hcall, hf.opn, hf.imp, hf.mem, hf.exp, hab.1, hab.2, keep58_4]
        exact ⟨(k + 1, J ++ [.row [[.int .i64 xa, .int .i64 xb]] 2 true]), by rw [← hH]; simp only [List.append_assoc], ⟨hlt, by rw [← List.append_assoc, hH]; exact hC.app _⟩, by simp only; omega, fun r hr => hr⟩
  · have hlt' : decide ((k : Int) < l.length) = false := decide_eq_false (by omega)
    rw [show l.length - k = 0 by omega]
    simp (decide := true) (implicitDefEqProofs := false) only [Am.findLoop, Am.loopOf, Am.bodyOf, Am.firstReg, Nat.beq, cond_true, cond_false, Am.splice, Am.walkW, Am.stdW, id, reduceCtorEq, Nat.reduceAdd, Nat.reduceSub, Nat.reduceMul, List.forall_mem_cons, List.forall_mem_nil, false_implies, implies_true, Try.f58, factsOf58, canonWk, hlt']
    refine ⟨rfl, J, ?_⟩
    rw [← hH]
    simp (decide := true) (implicitDefEqProofs := false) only [Am.findLoop, Am.loopOf, Am.bodyOf, Am.firstReg, Nat.beq, cond_true, cond_false, Am.splice, Am.walkW, Am.stdW, id, reduceCtorEq, Nat.reduceAdd, Nat.reduceSub, Nat.reduceMul, List.forall_mem_cons, List.forall_mem_nil, false_implies, implies_true, Try.f58, factsOf58]
end Go.Proofs.Ytcclbkkgpcpikaa
