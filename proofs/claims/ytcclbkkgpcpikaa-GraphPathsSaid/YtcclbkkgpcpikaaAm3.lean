/-
  The operations that only reckon or read: what the evaluator says of them the machine does.
-/
import Derived.Test.YtcclbkkgpcpikaaAm2
import Derived.WalkKit
set_option linter.unusedSimpArgs false
set_option linter.unusedVariables false
namespace Go.Am
open Go.RowKit

section
variable {P : Program} {w : World}

theorem run_isAgg {t : TypeId} {b : Bool} (h : tagg P t = some b) : (isAgg t).run P w = .ok b w := by
  unfold tagg at h
  unfold isAgg
  cases hu : P.underlying t with
  | none => simp [hu] at h
  | some d => simp only [Sem.run_bind, run_underlying hu, Result.andThen_ok]; cases d <;> simp_all
theorem run_sizeOf' {t : TypeId} {n : Nat} (h : tsize P t = some n) : (sizeOf t).run P w = .ok n w := by
  unfold tsize at h
  cases hi : P.info? t with
  | none => simp [hi] at h
  | some i => simp [hi] at h; simp [sizeOf, typeInfo, hi, h]
theorem pureRun_sound {α : Type} : ∀ (s : Sem α) (a : α), pureRun P s = some a → ∀ w, s.run P w = .ok a w
  | .pure a, b, h, w => by simp [pureRun] at h; subst h; rfl
  | .program k, b, h, w => by simp [pureRun] at h; exact pureRun_sound (k P) b h w
  | .load .., _, h, _ | .store .., _, h, _ | .new .., _, h, _ | .shape .., _, h, _ | .freeze .., _, h, _ | .frozen .., _, h, _ | .getObj .., _, h, _ | .setObj .., _, h, _ | .choose .., _, h, _ | .sys .., _, h, _ | .mark .., _, h, _ | .halt .., _, h, _ => by simp [pureRun] at h

theorem omap_nil {α β : Type} (f : α → Option β) : omap f [] = some [] := rfl
theorem omap_cons {α β : Type} (f : α → Option β) (a : α) (r : List α) : omap f (a :: r) = (f a).bind fun b => (omap f r).bind fun s => some (b :: s) := rfl
theorem bind2 {α β γ : Type} {x : Option α} {y : Option β} {f : α → β → Option γ} {r : γ} (h : (x.bind fun a => y.bind fun b => f a b) = some r) : ∃ a b, x = some a ∧ y = some b ∧ f a b = some r := by
  cases x with
  | none => simp at h
  | some a => cases y with
    | none => simp at h
    | some b => exact ⟨a, b, rfl, rfl, by simpa using h⟩
theorem map1 {α γ : Type} {x : Option α} {f : α → γ} {r : γ} (h : x.map f = some r) : ∃ a, x = some a ∧ f a = r := by
  cases x with
  | none => simp at h
  | some a => exact ⟨a, rfl, by simpa using h⟩
theorem bind1 {α γ : Type} {x : Option α} {f : α → Option γ} {r : γ} (h : x.bind f = some r) : ∃ a, x = some a ∧ f a = some r := by
  cases x with
  | none => simp at h
  | some a => exact ⟨a, rfl, by simpa using h⟩

theorem omap_cons_some {α β : Type} {f : α → Option β} {a : α} {r : List α} {l : List β} (h : omap f (a :: r) = some l) : ∃ b s, f a = some b ∧ omap f r = some s ∧ l = b :: s := by
  rw [omap_cons] at h
  cases h1 : f a with
  | none => simp [h1] at h
  | some b => cases h2 : omap f r with
    | none => simp [h1, h2] at h
    | some s => simp [h1, h2] at h; exact ⟨b, s, rfl, rfl, h.symm⟩
theorem omap_length {α β : Type} {f : α → Option β} : ∀ {r : List α} {l : List β}, omap f r = some l → l.length = r.length
  | [], l, h => by simp [omap_nil] at h; simp [h]
  | a :: r, l, h => by obtain ⟨b, s, _, h2, rfl⟩ := omap_cons_some h; simp [omap_length h2]
theorem omap_mem {α β : Type} {f : α → Option β} : ∀ {r : List α} {l : List β}, omap f r = some l → ∀ b ∈ l, ∃ a ∈ r, f a = some b
  | [], l, h, b, hb => by simp [omap_nil] at h; subst h; simp at hb
  | a :: r, l, h, b, hb => by
    obtain ⟨c, s, h1, h2, rfl⟩ := omap_cons_some h
    rcases List.mem_cons.1 hb with rfl | hb
    · exact ⟨a, List.mem_cons_self, h1⟩
    · obtain ⟨x, hx, hfx⟩ := omap_mem h2 b hb; exact ⟨x, List.mem_cons_of_mem _ hx, hfx⟩
theorem omap_get {α β : Type} {f : α → Option β} : ∀ {r : List α} {l : List β} {i : Nat} {a : α}, omap f r = some l → r[i]? = some a → ∃ b, l[i]? = some b ∧ f a = some b
  | [], l, i, a, h, hi => by simp at hi
  | c :: r, l, i, a, h, hi => by
    obtain ⟨b, s, h1, h2, rfl⟩ := omap_cons_some h
    cases i with
    | zero => simp at hi; subst hi; exact ⟨b, rfl, h1⟩
    | succ i => simp at hi ⊢; exact omap_get h2 hi

variable {φ : Phi} {S : Nat → Prop} {B : Nat} {H : List Mem}

theorem ofScal_sound {v : Value} {p : PV} (h : ofScal v = some p) : VRel φ w S p v ∧ oneP p = true := by
  unfold ofScal at h
  split at h <;> first | (simp at h; subst h; exact ⟨by simp [VRel], rfl⟩) | simp at h
theorem ofScals_sound : ∀ {vs : List Value} {ps : List PV}, omap ofScal vs = some ps → VL φ w S ps vs ∧ ∀ c ∈ ps, oneP c = true
  | [], ps, h => by simp [omap_nil] at h; subst h; exact ⟨by simp only [VL], by simp⟩
  | v :: vs, ps, h => by
    obtain ⟨b, s, h1, h2, rfl⟩ := omap_cons_some h
    obtain ⟨h3, h4⟩ := ofScals_sound h2
    obtain ⟨h5, h6⟩ := ofScal_sound (φ := φ) (w := w) (S := S) h1
    refine ⟨⟨v, vs, rfl, h5, h3⟩, ?_⟩
    intro c hc
    rcases List.mem_cons.1 hc with rfl | hc
    · exact h6
    · exact h4 c hc
theorem ofVal_sound {v : Value} {p : PV} (h : ofVal v = some p) : VRel φ w S p v := by
  unfold ofVal at h
  split at h
  · rename_i cs
    cases h1 : omap ofScal cs.toList with
    | none => simp [h1] at h
    | some ps =>
      simp [h1] at h; subst h
      obtain ⟨h2, h3⟩ := ofScals_sound (φ := φ) (w := w) (S := S) h1
      simp only [VRel]
      exact ⟨cs, rfl, h3, h2⟩
  · exact (ofScal_sound h).1
theorem toScal_eq {p : PV} {v u : Value} (h : toScal p = some v) (hr : VRel φ w S p u) : u = v := by
  cases p <;> simp [toScal] at h <;> simp only [VRel] at hr <;> rw [hr, h]
theorem toScals_eq : ∀ {ps : List PV} {vs us : List Value}, omap toScal ps = some vs → VL φ w S ps us → us = vs
  | [], vs, us, h, hr => by simp [omap_nil] at h; simp only [VL] at hr; subst h; exact hr
  | p :: ps, vs, us, h, hr => by
    obtain ⟨b, s, h1, h2, rfl⟩ := omap_cons_some h
    simp only [VL] at hr
    obtain ⟨v, r, rfl, h3, h4⟩ := hr
    rw [toScal_eq h1 h3, toScals_eq h2 h4]

/-- The variables. -/
def TRel (φ : Phi) (w : World) (S : Nat → Prop) (N : Nat) (tm : List (Nat × PV)) (a : Act) : Prop :=
  a.tmps.size = N ∧ a.defers = [] ∧ ∀ i p, get tm i = some p → i < N ∧ VRel φ w S p (a.tmps.getD i undef)

theorem get_nil (i : Nat) : get [] i = none := rfl
theorem get_cons (j : Nat) (v : PV) (r : List (Nat × PV)) (i : Nat) : get ((j, v) :: r) i = if i = j then some v else get r i := by
  show (bif Nat.beq i j then some v else get r i) = _
  by_cases h : i = j
  · simp [h]
  · have : Nat.beq i j = false := by
      cases hb : Nat.beq i j with
      | false => rfl
      | true => exact absurd (Nat.eq_of_beq_eq_true hb) h
    simp [h, this]

theorem ev_sound {tm : List (Nat × PV)} {a : Act} {N : Nat} (ht : TRel φ w S N tm a) {x : Operand} {p : PV} (h : ev tm x = some p) : VRel φ w S p (a.eval x) := by
  cases x with
  | tmp t => exact (ht.2.2 t p h).2
  | const v => exact ofVal_sound h
  | global g => simp [ev] at h
  | func f => simp [ev] at h; subst h; simp only [VRel, Act.eval]; exact ⟨#[], #[], rfl, by simp only [VL], by simp only [VL]⟩
theorem evs_sound {tm : List (Nat × PV)} {a : Act} {N : Nat} (ht : TRel φ w S N tm a) : ∀ {xs : List Operand} {ps : List PV}, omap (ev tm) xs = some ps → VL φ w S ps (xs.map a.eval)
  | [], ps, h => by simp [omap_nil] at h; subst h; simp only [VL, List.map_nil]
  | x :: xs, ps, h => by
    obtain ⟨b, s, h1, h2, rfl⟩ := omap_cons_some h
    exact ⟨_, _, rfl, ev_sound ht h1, evs_sound ht h2⟩


/-- ints -/
theorem if_none {α : Type} {c : Prop} [Decidable c] {x : Option α} {p : α} (h : (if c then none else x) = some p) : ¬ c ∧ x = some p := by
  by_cases hc : c
  · rw [if_pos hc] at h; cases h
  · rw [if_neg hc] at h; exact ⟨hc, h⟩
theorem if_some {α : Type} {c : Prop} [Decidable c] {x : Option α} {p : α} (h : (if c then x else none) = some p) : c ∧ x = some p := by
  by_cases hc : c
  · rw [if_pos hc] at h; exact ⟨hc, h⟩
  · rw [if_neg hc] at h; cases h
theorem VRel_int (k : IntKind) (n : Int) : VRel φ w S (.int k n) (.int k n) := by simp only [VRel]
theorem VRel_bool (b : Bool) : VRel φ w S (.bool b) (.bool b) := by simp only [VRel]
theorem VRel_str (s : ByteArray) : VRel φ w S (.str s) (.string s) := by simp only [VRel]
theorem intBin_sound {op : BinOp} {t : TypeId} {k k' : IntKind} {a b : Int} {p : PV} (h : intBin op k a k' b = some p) : ∃ u, (binOp op t (.int k a) (.int k' b)).run P w = .ok u w ∧ VRel φ w S p u := by
  cases op <;> simp only [intBin] at h <;> first
    | (obtain ⟨hk, h2⟩ := if_some h; subst hk; obtain ⟨hz, h3⟩ := if_none h2; cases h3; refine ⟨_, ?_, VRel_int _ _⟩; simp only [binOp, Op.intDiv, ne_eq, not_true_eq_false, if_false, hz]; rfl)
    | (obtain ⟨hk, h2⟩ := if_some h; subst hk; cases h2; refine ⟨_, ?_, VRel_int _ _⟩; simp only [binOp, Op.intArith, Op.intBits, Op.intCmp, ne_eq, not_true_eq_false, if_false]; rfl)
    | (obtain ⟨hk, h2⟩ := if_some h; subst hk; cases h2; refine ⟨_, ?_, VRel_bool _⟩; simp only [binOp, Op.intArith, Op.intBits, Op.intCmp, ne_eq, not_true_eq_false, if_false]; rfl)
    | (obtain ⟨hz, h2⟩ := if_none h; cases h2; refine ⟨_, ?_, VRel_int _ _⟩; simp only [binOp, Op.shift, hz, if_false]; rfl)
theorem bytes_list (k s : ByteArray) : (k.data.toList == s.data.toList) = (k == s) := by
  cases k with
  | mk x =>
    cases s with
    | mk y =>
      show (x.toList == y.toList) = (x == y)
      rw [Bool.eq_iff_iff, beq_iff_eq, beq_iff_eq]
      exact ⟨fun h => Array.ext' h, fun h => by rw [h]⟩
theorem strBin_sound {op : BinOp} {t : TypeId} {a b : ByteArray} {p : PV} (h : strBin op a b = some p) : ∃ u, (binOp op t (.string a) (.string b)).run P w = .ok u w ∧ VRel φ w S p u := by
  simp only [strBin, ← ByteArray.toList_eq] at h
  cases op <;> simp only [] at h <;> first
    | (cases h; done)
    | (cases h; exact ⟨_, rfl, VRel_bool _⟩)
    | (obtain ⟨hle, h⟩ := if_some h
       cases h
       refine ⟨_, ?_, VRel_str _⟩
       have hm : IntKind.i64.max = 9223372036854775807 := rfl
       show (if ((a.size + b.size : Nat) : Int) > IntKind.i64.max then _ else _ : Sem Value).run P w = _
       rw [if_neg (by rw [hm]; omega)]
       rfl)

theorem isBoolT_spec {t : TypeId} (h : isBoolT P t = true) : P.underlying t = some .bool := by
  unfold isBoolT at h
  split at h
  · assumption
  · simp at h
theorem isPtrT_spec {t : TypeId} (h : isPtrT P t = true) : ∃ e, P.underlying t = some (.pointer e) := by
  unfold isPtrT at h
  split at h
  · exact ⟨_, by assumption⟩
  · simp at h
theorem isSliceT_spec {t : TypeId} (h : isSliceT P t = true) : ∃ e, P.underlying t = some (.slice e) := by
  unfold isSliceT at h
  split at h
  · exact ⟨_, by assumption⟩
  · simp at h

theorem eqBin_sound {op : BinOp} {t : TypeId} {a b : Value} {r : Bool} {p : PV} (h : eqOp op r = some p) (hb : ∀ op' : BinOp, (op' = .eql ∨ op' = .neq) → binOp op' t a b = (match op' with
    | .eql => (do pure (.bool (← Op.equal t a b)) : Sem Value) | _ => (do pure (.bool (!(← Op.equal t a b))) : Sem Value))) (he : (Op.equal t a b).run P w = .ok r w) : ∃ u, (binOp op t a b).run P w = .ok u w ∧ VRel φ w S p u := by
  unfold eqOp at h
  split at h
  · simp at h; subst h
    rw [hb .eql (.inl rfl)]
    exact ⟨.bool r, by simp [he], by simp only [VRel]⟩
  · simp at h; subst h
    rw [hb .neq (.inr rfl)]
    exact ⟨.bool (!r), by simp [he], by simp only [VRel]⟩
  · simp at h

theorem run_eqGuard_simple {op : BinOp} {t : TypeId} {x y : Operand} {a b : Value} (h : ∀ cs ds, ¬ (a = .agg cs ∧ b = .agg ds)) (h' : ¬ (a = .nilIface ∧ b = .nilIface)) : (eqGuard op t x y a b).run P w = .ok () w := by
  cases op <;> first
    | rfl
    | (simp only [eqGuard, Bool.not_true, Bool.false_eq_true, if_false]
       split
       · exact absurd ⟨rfl, rfl⟩ h'
       · exact absurd ⟨rfl, rfl⟩ (h _ _)
       · rfl)

theorem binPV_sound {op : BinOp} {t : TypeId} {x y p : PV} {X Y : Operand} {a b : Value} (h : binPV P op t x y = some p) (hx : VRel φ w S x a) (hy : VRel φ w S y b) :
    ∃ u, (do eqGuard op t X Y a b; binOp op t a b : Sem Value).run P w = .ok u w ∧ VRel φ w S p u := by
  have guard : ((eqGuard op t X Y a b).run P w = .ok () w) → (∃ u, (binOp op t a b).run P w = .ok u w ∧ VRel φ w S p u) → ∃ u, (do eqGuard op t X Y a b; binOp op t a b : Sem Value).run P w = .ok u w ∧ VRel φ w S p u := by
    rintro hg ⟨u, h1, h2⟩
    exact ⟨u, by simp [hg, h1], h2⟩
  unfold binPV at h
  split at h
  · simp only [VRel] at hx hy; subst hx; subst hy
    exact guard (run_eqGuard_simple (by simp) (by simp)) (intBin_sound h)
  · simp only [VRel] at hx hy; subst hx; subst hy
    exact guard (run_eqGuard_simple (by simp) (by simp)) (strBin_sound h)
  · rename_i c d
    simp only [VRel] at hx hy; subst hx; subst hy
    split at h
    · rename_i hb
      have hu := isBoolT_spec hb
      refine guard (run_eqGuard_simple (by simp) (by simp)) (eqBin_sound h ?_ ?_)
      · rintro op' (rfl | rfl) <;> rfl
      · show (Op.equalIn (9999 + 1) t _ _).run P w = _
        rw [Op.equalIn]
        simp [run_underlying hu]
    · simp at h
  · rename_i xs ys
    simp only [VRel] at hx hy
    obtain ⟨ax, rfl, _, hvx⟩ := hx
    obtain ⟨ay, rfl, _, hvy⟩ := hy
    cases he : aggEq P t xs ys with
    | none => simp [he] at h
    | some r =>
      simp [he] at h
      unfold aggEq at he
      cases h1 : omap toScal xs with
      | none => simp [h1] at he
      | some as =>
        cases h2 : omap toScal ys with
        | none => simp [h1, h2] at he
        | some bs =>
          simp [h1, h2] at he
          obtain ⟨hg, he⟩ := he
          have e1 : ax = as.toArray := by have := toScals_eq h1 hvx; rw [← this]
          have e2 : ay = bs.toArray := by have := toScals_eq h2 hvy; rw [← this]
          subst e1; subst e2
          refine guard ?_ (eqBin_sound h ?_ (pureRun_sound _ _ he w))
          · cases op <;> first
              | rfl
              | (simp [eqGuard, hg])
          · rintro op' (rfl | rfl) <;> rfl
  · simp only [VRel] at hx hy; subst hx; subst hy
    split at h
    · rename_i hb
      obtain ⟨e, hu⟩ := isSliceT_spec hb
      refine guard (run_eqGuard_simple (by simp) (by simp)) (eqBin_sound h ?_ ?_)
      · rintro op' (rfl | rfl) <;> rfl
      · show (Op.equalIn (9999 + 1) t _ _).run P w = _
        rw [Op.equalIn]
        simp [run_underlying hu]
    · simp at h
  · simp only [VRel] at hx hy
    obtain ⟨l, ad, c, _, rfl, _⟩ := hx
    subst hy
    split at h
    · rename_i hb
      obtain ⟨e, hu⟩ := isSliceT_spec hb
      refine guard (run_eqGuard_simple (by simp) (by simp)) (eqBin_sound h ?_ ?_)
      · rintro op' (rfl | rfl) <;> rfl
      · show (Op.equalIn (9999 + 1) t _ _).run P w = _
        rw [Op.equalIn]
        simp [run_underlying hu]
    · simp at h
  · simp only [VRel, IRel] at hx hy
    obtain ⟨ad, c, rfl, _⟩ := hx
    subst hy
    split at h
    · rename_i hb
      obtain ⟨e, hu⟩ := isSliceT_spec hb
      refine guard (run_eqGuard_simple (by simp) (by simp)) (eqBin_sound h ?_ ?_)
      · rintro op' (rfl | rfl) <;> rfl
      · show (Op.equalIn (9999 + 1) t _ _).run P w = _
        rw [Op.equalIn]
        simp [run_underlying hu]
    · simp at h
  · simp only [VRel] at hx hy; subst hx; subst hy
    split at h
    · rename_i hb
      obtain ⟨e, hu⟩ := isPtrT_spec hb
      refine guard (run_eqGuard_simple (by simp) (by simp)) (eqBin_sound h ?_ ?_)
      · rintro op' (rfl | rfl) <;> rfl
      · show (Op.equalIn (9999 + 1) t _ _).run P w = _
        rw [Op.equalIn]
        simp [run_underlying hu]
    · simp at h
  · simp only [VRel] at hx hy
    obtain ⟨l, _, rfl⟩ := hx
    subst hy
    split at h
    · rename_i hb
      obtain ⟨e, hu⟩ := isPtrT_spec hb
      refine guard (run_eqGuard_simple (by simp) (by simp)) (eqBin_sound h ?_ ?_)
      · rintro op' (rfl | rfl) <;> rfl
      · show (Op.equalIn (9999 + 1) t _ _).run P w = _
        rw [Op.equalIn]
        simp [run_underlying hu]
    · simp at h
  · simp only [VRel, IRel] at hx hy
    obtain ⟨b, o, rfl, _⟩ := hx
    subst hy
    split at h
    · rename_i hb
      obtain ⟨e, hu⟩ := isPtrT_spec hb
      refine guard (run_eqGuard_simple (by simp) (by simp)) (eqBin_sound h ?_ ?_)
      · rintro op' (rfl | rfl) <;> rfl
      · show (Op.equalIn (9999 + 1) t _ _).run P w = _
        rw [Op.equalIn]
        simp [run_underlying hu]
    · simp at h
  · simp at h

theorem unPV_sound {op : UnOp} {x p : PV} {a : Value} (h : unPV op x = some p) (hx : VRel φ w S x a) : ∃ u, (Op.unary op a).run P w = .ok u w ∧ VRel φ w S p u := by
  unfold unPV at h
  split at h <;> first
    | (simp at h; done)
    | (simp only [Option.some.injEq] at h; subst h; simp only [VRel] at hx; subst hx; exact ⟨_, rfl, by simp only [VRel]⟩)

end
end Go.Am
