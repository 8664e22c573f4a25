/-
  The relation between the evaluator's values and the machine's, and what keeps it.
-/
import Derived.Test.YtcclbkkgpcpikaaAm1
import Derived.Below
set_option linter.unusedSimpArgs false
set_option linter.unusedVariables false
namespace Go.Am
open Go.RowKit

structure Loc where
  b : Nat
  o : Nat
  z : Nat
  top : Nat

abbrev Phi := Nat → Option Loc

/-- A value that takes one cell. -/
def oneP : PV → Bool
  | .agg _ | .tup _ => false
  | _ => true

section
variable (w : World) (S : Nat → Prop)
mutual
def IRel : PV → Value → Prop
  | .bool b, v => v = .bool b
  | .int k n, v => v = .int k n
  | .str s, v => v = .string s
  | .nilp, v => v = .pointer none
  | .nils, v => v = .slice none 0 0
  | .nilf, v => v = .nilFunc
  | .nilm, v => v = .map none
  | .ptr _ _ _, _ => False
  | .ref _ _ _ _, _ => False
  | .map _, _ => False
  | .lst es, v => ∃ a c, v = .slice (some a) es.length c ∧ es.length ≤ c ∧ (es = [] ∨ ∃ b o z, a = ⟨b, o, none⟩ ∧ S b ∧ (∀ x ∈ es, x.length = z) ∧ EsRel es b o)
  | .box cs r, v => ∃ b o, v = .pointer (some ⟨b, o + r, none⟩) ∧ S b ∧ CsRel cs b o
  | .func f first caps, v => ∃ fs cs, v = .func (.func f) fs cs ∧ LRel first fs.toList ∧ LRel caps cs.toList
  | .agg cs, v => ∃ arr, v = .agg arr ∧ (∀ c ∈ cs, oneP c = true) ∧ LRel cs arr.toList
  | .tup vs, v => ∃ arr, v = .tuple arr ∧ LRel vs arr.toList
def CsRel : List PV → Nat → Nat → Prop
  | [], _, _ => True
  | p :: ps, b, o => (oneP p = true ∧ ∃ v, w.cell? ⟨b, o, none⟩ = some v ∧ IRel p v) ∧ CsRel ps b (o + 1)
def EsRel : List (List PV) → Nat → Nat → Prop
  | [], _, _ => True
  | c :: cs, b, o => CsRel c b o ∧ EsRel cs b (o + c.length)
def LRel : List PV → List Value → Prop
  | [], vs => vs = []
  | p :: ps, vs => ∃ v r, vs = v :: r ∧ IRel p v ∧ LRel ps r
end
end

section
variable {w w' : World} {S S' : Nat → Prop}
theorem cell_of_blk {b : Nat} (h : w'.heap[b]? = w.heap[b]?) (o : Nat) : w'.cell? ⟨b, o, none⟩ = w.cell? ⟨b, o, none⟩ := by simp [World.cell?, h]

mutual
theorem IRel.mono (hs : ∀ b, S b → S' b ∧ w'.heap[b]? = w.heap[b]?) : ∀ (p : PV) (v : Value), IRel w S p v → IRel w' S' p v
  | .bool _, _, h | .int _ _, _, h | .str _, _, h | .nilp, _, h | .nils, _, h | .nilf, _, h | .nilm, _, h => by simpa only [IRel] using h
  | .ptr _ _ _, _, h | .ref _ _ _ _, _, h | .map _, _, h => by simp only [IRel] at h
  | .lst es, v, h => by
    simp only [IRel] at h ⊢
    obtain ⟨a, c, h1, h2, h3⟩ := h
    refine ⟨a, c, h1, h2, ?_⟩
    rcases h3 with h3 | ⟨b, o, z, ha, hb, hz, he⟩
    · exact .inl h3
    · exact .inr ⟨b, o, z, ha, (hs b hb).1, hz, EsRel.mono hs es b o (hs b hb).2 he⟩
  | .box cs r, v, h => by
    simp only [IRel] at h ⊢
    obtain ⟨b, o, h1, hb, hc⟩ := h
    exact ⟨b, o, h1, (hs b hb).1, CsRel.mono hs cs b o (hs b hb).2 hc⟩
  | .func f a c, v, h => by
    simp only [IRel] at h ⊢
    obtain ⟨fs, cs, h1, h2, h3⟩ := h
    exact ⟨fs, cs, h1, LRel.mono hs a _ h2, LRel.mono hs c _ h3⟩
  | .agg cs, v, h => by
    simp only [IRel] at h ⊢
    obtain ⟨arr, h1, h0, h2⟩ := h
    exact ⟨arr, h1, h0, LRel.mono hs cs _ h2⟩
  | .tup cs, v, h => by
    simp only [IRel] at h ⊢
    obtain ⟨arr, h1, h2⟩ := h
    exact ⟨arr, h1, LRel.mono hs cs _ h2⟩
theorem CsRel.mono (hs : ∀ b, S b → S' b ∧ w'.heap[b]? = w.heap[b]?) : ∀ (l : List PV) (b o : Nat), w'.heap[b]? = w.heap[b]? → CsRel w S l b o → CsRel w' S' l b o
  | [], _, _, _, _ => by simp only [CsRel]
  | p :: ps, b, o, hb, h => by
    simp only [CsRel] at h ⊢
    obtain ⟨⟨h1, v, hv, hp⟩, hr⟩ := h
    exact ⟨⟨h1, v, by rw [cell_of_blk hb]; exact hv, IRel.mono hs p v hp⟩, CsRel.mono hs ps b (o + 1) hb hr⟩
theorem EsRel.mono (hs : ∀ b, S b → S' b ∧ w'.heap[b]? = w.heap[b]?) : ∀ (l : List (List PV)) (b o : Nat), w'.heap[b]? = w.heap[b]? → EsRel w S l b o → EsRel w' S' l b o
  | [], _, _, _, _ => by simp only [EsRel]
  | c :: cs, b, o, hb, h => by
    simp only [EsRel] at h ⊢
    exact ⟨CsRel.mono hs c b o hb h.1, EsRel.mono hs cs b _ hb h.2⟩
theorem LRel.mono (hs : ∀ b, S b → S' b ∧ w'.heap[b]? = w.heap[b]?) : ∀ (l : List PV) (vs : List Value), LRel w S l vs → LRel w' S' l vs
  | [], _, h => by simpa only [LRel] using h
  | p :: ps, vs, h => by
    simp only [LRel] at h ⊢
    obtain ⟨v, r, h1, h2, h3⟩ := h
    exact ⟨v, r, h1, IRel.mono hs p v h2, LRel.mono hs ps r h3⟩
end
end

section
variable (φ : Phi) (w : World) (S : Nat → Prop)
mutual
def VRel : PV → Value → Prop
  | .ptr id i r, v => ∃ l, φ id = some l ∧ v = .pointer (some ⟨l.b, l.o + i * l.z + r, none⟩)
  | .ref id i n m, v => ∃ l a c, φ id = some l ∧ v = .slice (some a) n c ∧ n ≤ m ∧ m ≤ c ∧ ((n = 0 ∧ c = 0) ∨ (a = ⟨l.b, l.o + i * l.z, none⟩ ∧ (i + c) * l.z ≤ l.top))
  | .map id, v => ∃ l, φ id = some l ∧ v = .map (some l.b)
  | .func f first caps, v => ∃ fs cs, v = .func (.func f) fs cs ∧ VL first fs.toList ∧ VL caps cs.toList
  | .agg cs, v => ∃ arr, v = .agg arr ∧ (∀ c ∈ cs, oneP c = true) ∧ VL cs arr.toList
  | .tup vs, v => ∃ arr, v = .tuple arr ∧ VL vs arr.toList
  | .bool b, v => v = .bool b
  | .int k n, v => v = .int k n
  | .str s, v => v = .string s
  | .nilp, v => v = .pointer none
  | .nils, v => v = .slice none 0 0
  | .nilf, v => v = .nilFunc
  | .nilm, v => v = .map none
  | .lst es, v => IRel w S (.lst es) v
  | .box cs r, v => IRel w S (.box cs r) v
def VL : List PV → List Value → Prop
  | [], vs => vs = []
  | p :: ps, vs => ∃ v r, vs = v :: r ∧ VRel p v ∧ VL ps r
end

/-- Cells of own memory. -/
def VC : List PV → Nat → Nat → Prop
  | [], _, _ => True
  | p :: ps, b, o => (oneP p = true ∧ ∃ v, w.cell? ⟨b, o, none⟩ = some v ∧ VRel φ w S p v) ∧ VC ps b (o + 1)
def VE : List (List PV) → Nat → Nat → Prop
  | [], _, _ => True
  | c :: cs, b, o => VC φ w S c b o ∧ VE cs b (o + c.length)
/-- Entries of an own map. -/
def VM : List (PV × PV) → List MapEntry → Prop
  | [], l => l = []
  | (k, v) :: r, l => ∃ e l', l = e :: l' ∧ VRel φ w S k e.key ∧ VRel φ w S v e.val ∧ VM r l'
end

section
variable {φ φ' : Phi} {w w' : World} {S S' : Nat → Prop}

mutual
theorem VRel.mono (hp : ∀ id l, φ id = some l → φ' id = some l) (hs : ∀ b, S b → S' b ∧ w'.heap[b]? = w.heap[b]?) : ∀ (p : PV) (v : Value), VRel φ w S p v → VRel φ' w' S' p v
  | .bool _, _, h | .int _ _, _, h | .str _, _, h | .nilp, _, h | .nils, _, h | .nilf, _, h | .nilm, _, h => by simpa only [VRel] using h
  | .ptr _ _ _, _, h => by
    simp only [VRel] at h ⊢
    obtain ⟨l, h1, h2⟩ := h
    exact ⟨l, hp _ _ h1, h2⟩
  | .ref _ _ _ _, _, h => by
    simp only [VRel] at h ⊢
    obtain ⟨l, a, c, h1, h2⟩ := h
    exact ⟨l, a, c, hp _ _ h1, h2⟩
  | .map _, _, h => by
    simp only [VRel] at h ⊢
    obtain ⟨l, h1, h2⟩ := h
    exact ⟨l, hp _ _ h1, h2⟩
  | .lst es, v, h => by simp only [VRel] at h ⊢; exact IRel.mono hs _ _ h
  | .box cs r, v, h => by simp only [VRel] at h ⊢; exact IRel.mono hs _ _ h
  | .func f a c, v, h => by
    simp only [VRel] at h ⊢
    obtain ⟨fs, cs, h1, h2, h3⟩ := h
    exact ⟨fs, cs, h1, VL.mono hp hs a _ h2, VL.mono hp hs c _ h3⟩
  | .agg cs, v, h => by
    simp only [VRel] at h ⊢
    obtain ⟨arr, h1, h0, h2⟩ := h
    exact ⟨arr, h1, h0, VL.mono hp hs cs _ h2⟩
  | .tup cs, v, h => by
    simp only [VRel] at h ⊢
    obtain ⟨arr, h1, h2⟩ := h
    exact ⟨arr, h1, VL.mono hp hs cs _ h2⟩
theorem VL.mono (hp : ∀ id l, φ id = some l → φ' id = some l) (hs : ∀ b, S b → S' b ∧ w'.heap[b]? = w.heap[b]?) : ∀ (l : List PV) (vs : List Value), VL φ w S l vs → VL φ' w' S' l vs
  | [], _, h => by simpa only [VL] using h
  | p :: ps, vs, h => by
    simp only [VL] at h ⊢
    obtain ⟨v, r, h1, h2, h3⟩ := h
    exact ⟨v, r, h1, VRel.mono hp hs p v h2, VL.mono hp hs ps r h3⟩
end

theorem VC.mono (hp : ∀ id l, φ id = some l → φ' id = some l) (hs : ∀ b, S b → S' b ∧ w'.heap[b]? = w.heap[b]?) : ∀ (l : List PV) (b o : Nat), w'.heap[b]? = w.heap[b]? → VC φ w S l b o → VC φ' w' S' l b o
  | [], _, _, _, _ => trivial
  | p :: ps, b, o, hb, h => by
    obtain ⟨⟨h1, v, hv, hr⟩, ht⟩ := h
    exact ⟨⟨h1, v, by rw [cell_of_blk hb]; exact hv, VRel.mono hp hs p v hr⟩, VC.mono hp hs ps b (o + 1) hb ht⟩
theorem VE.mono (hp : ∀ id l, φ id = some l → φ' id = some l) (hs : ∀ b, S b → S' b ∧ w'.heap[b]? = w.heap[b]?) : ∀ (l : List (List PV)) (b o : Nat), w'.heap[b]? = w.heap[b]? → VE φ w S l b o → VE φ' w' S' l b o
  | [], _, _, _, _ => trivial
  | c :: cs, b, o, hb, h => ⟨VC.mono hp hs c b o hb h.1, VE.mono hp hs cs b _ hb h.2⟩
theorem VM.mono (hp : ∀ id l, φ id = some l → φ' id = some l) (hs : ∀ b, S b → S' b ∧ w'.heap[b]? = w.heap[b]?) : ∀ (l : List (PV × PV)) (es : List MapEntry), VM φ w S l es → VM φ' w' S' l es
  | [], _, h => h
  | (k, v) :: r, es, h => by
    obtain ⟨e, l', h1, h2, h3, h4⟩ := h
    exact ⟨e, l', h1, VRel.mono hp hs _ _ h2, VRel.mono hp hs _ _ h3, VM.mono hp hs r l' h4⟩

mutual
theorem IRel.toV : ∀ (p : PV) (v : Value), IRel w S p v → VRel φ w S p v
  | .bool _, _, h | .int _ _, _, h | .str _, _, h | .nilp, _, h | .nils, _, h | .nilf, _, h | .nilm, _, h => by simpa only [VRel, IRel] using h
  | .ptr _ _ _, _, h | .ref _ _ _ _, _, h | .map _, _, h => by simp only [IRel] at h
  | .lst es, v, h => by simp only [VRel]; exact h
  | .box cs r, v, h => by simp only [VRel]; exact h
  | .func f a c, v, h => by
    simp only [VRel, IRel] at h ⊢
    obtain ⟨fs, cs, h1, h2, h3⟩ := h
    exact ⟨fs, cs, h1, LRel.toV a _ h2, LRel.toV c _ h3⟩
  | .agg cs, v, h => by
    simp only [VRel, IRel] at h ⊢
    obtain ⟨arr, h1, h0, h2⟩ := h
    exact ⟨arr, h1, h0, LRel.toV cs _ h2⟩
  | .tup cs, v, h => by
    simp only [VRel, IRel] at h ⊢
    obtain ⟨arr, h1, h2⟩ := h
    exact ⟨arr, h1, LRel.toV cs _ h2⟩
theorem LRel.toV : ∀ (l : List PV) (vs : List Value), LRel w S l vs → VL φ w S l vs
  | [], _, h => by simpa only [VL, LRel] using h
  | p :: ps, vs, h => by
    simp only [VL, LRel] at h ⊢
    obtain ⟨v, r, h1, h2, h3⟩ := h
    exact ⟨v, r, h1, IRel.toV p v h2, LRel.toV ps r h3⟩
end
theorem CsRel.toV : ∀ (l : List PV) (b o : Nat), CsRel w S l b o → VC φ w S l b o
  | [], _, _, _ => trivial
  | p :: ps, b, o, h => by
    simp only [CsRel] at h
    obtain ⟨⟨h1, v, hv, hr⟩, ht⟩ := h
    exact ⟨⟨h1, v, hv, IRel.toV p v hr⟩, CsRel.toV ps b (o + 1) ht⟩
theorem EsRel.toV : ∀ (l : List (List PV)) (b o : Nat), EsRel w S l b o → VE φ w S l b o
  | [], _, _, _ => trivial
  | c :: cs, b, o, h => by
    simp only [EsRel] at h
    exact ⟨CsRel.toV c b o h.1, EsRel.toV cs b _ h.2⟩

theorem VL.length : ∀ {l : List PV} {vs : List Value}, VL φ w S l vs → vs.length = l.length
  | [], _, h => by simp only [VL] at h; simp [h]
  | p :: ps, _, h => by
    simp only [VL] at h
    obtain ⟨v, r, rfl, _, h3⟩ := h
    simp [VL.length h3]
theorem VL.get : ∀ {l : List PV} {vs : List Value} {i : Nat} {p : PV}, VL φ w S l vs → l[i]? = some p → ∃ v, vs[i]? = some v ∧ VRel φ w S p v
  | [], _, _, _, _, hi => by simp at hi
  | q :: ps, _, i, p, h, hi => by
    simp only [VL] at h
    obtain ⟨v, r, rfl, h2, h3⟩ := h
    cases i with
    | zero => simp at hi; subst hi; exact ⟨v, rfl, h2⟩
    | succ i => simp at hi ⊢; exact VL.get h3 hi
theorem VL.append : ∀ {l m : List PV} {vs us : List Value}, VL φ w S l vs → VL φ w S m us → VL φ w S (l ++ m) (vs ++ us)
  | [], _, _, _, h, h' => by simp only [VL] at h; subst h; simpa using h'
  | p :: ps, _, _, _, h, h' => by
    simp only [VL] at h
    obtain ⟨v, r, rfl, h2, h3⟩ := h
    exact ⟨v, r ++ _, by simp, h2, VL.append h3 h'⟩
theorem VL.split : ∀ {l m : List PV} {vs : List Value}, VL φ w S (l ++ m) vs → ∃ a b, vs = a ++ b ∧ VL φ w S l a ∧ VL φ w S m b
  | [], _, vs, h => ⟨[], vs, rfl, by simp only [VL], h⟩
  | p :: ps, m, vs, h => by
    have h' : VL φ w S (p :: (ps ++ m)) vs := h
    simp only [VL] at h'
    obtain ⟨v, r, rfl, h2, h3⟩ := h'
    obtain ⟨a, b, rfl, ha, hb⟩ := VL.split h3
    exact ⟨v :: a, b, rfl, ⟨v, a, rfl, h2, ha⟩, hb⟩
theorem VL.take : ∀ {l : List PV} {vs : List Value} (n : Nat), VL φ w S l vs → VL φ w S (l.take n) (vs.take n)
  | [], vs, n, h => by simp only [VL] at h; subst h; simp [VL]
  | p :: ps, vs, 0, _ => by simp [VL]
  | p :: ps, vs, n + 1, h => by
    simp only [VL] at h
    obtain ⟨v, r, rfl, h2, h3⟩ := h
    simp only [List.take_succ_cons, VL]
    exact ⟨v, r.take n, rfl, h2, VL.take n h3⟩
theorem VL.drop : ∀ {l : List PV} {vs : List Value} (n : Nat), VL φ w S l vs → VL φ w S (l.drop n) (vs.drop n)
  | [], vs, n, h => by simp only [VL] at h; subst h; simp [VL]
  | p :: ps, vs, 0, h => by simpa using h
  | p :: ps, vs, n + 1, h => by
    simp only [VL] at h
    obtain ⟨v, r, rfl, h2, h3⟩ := h
    simpa using VL.drop n h3

theorem VC.get : ∀ {l : List PV} {b o i : Nat} {p : PV}, VC φ w S l b o → l[i]? = some p → oneP p = true ∧ ∃ v, w.cell? ⟨b, o + i, none⟩ = some v ∧ VRel φ w S p v
  | [], _, _, _, _, _, hi => by simp at hi
  | q :: ps, b, o, i, p, h, hi => by
    obtain ⟨⟨h1, v, hv, hr⟩, ht⟩ := h
    cases i with
    | zero => simp at hi; subst hi; exact ⟨h1, v, hv, hr⟩
    | succ i =>
      simp at hi
      obtain ⟨h2, u, hu, hur⟩ := VC.get ht hi
      exact ⟨h2, u, by rw [← hu]; congr 2; omega, hur⟩
theorem VC.vals : ∀ {l : List PV} {b o : Nat}, VC φ w S l b o → ∃ vs, VL φ w S l vs ∧ (∀ c ∈ l, oneP c = true) ∧ ∀ j v, vs[j]? = some v → w.cell? ⟨b, o + j, none⟩ = some v
  | [], _, _, _ => ⟨[], by simp only [VL], by simp, by simp⟩
  | p :: ps, b, o, h => by
    obtain ⟨⟨h1, v, hv, hr⟩, ht⟩ := h
    obtain ⟨vs, h2, h3, h4⟩ := VC.vals ht
    refine ⟨v :: vs, ⟨v, vs, rfl, hr, h2⟩, ?_, ?_⟩
    · intro c hc
      rcases List.mem_cons.1 hc with rfl | hc
      · exact h1
      · exact h3 c hc
    · intro j u hj
      cases j with
      | zero => simp at hj; subst hj; exact hv
      | succ j => simp at hj; rw [← h4 j u hj]; congr 2; omega
theorem VC.of_vals : ∀ {l : List PV} {vs : List Value} {b o : Nat}, VL φ w S l vs → (∀ c ∈ l, oneP c = true) → (∀ j v, vs[j]? = some v → w.cell? ⟨b, o + j, none⟩ = some v) → VC φ w S l b o
  | [], _, _, _, _, _, _ => trivial
  | p :: ps, vs, b, o, h, h1, hc => by
    simp only [VL] at h
    obtain ⟨v, r, rfl, h2, h3⟩ := h
    exact ⟨⟨h1 p List.mem_cons_self, v, by simpa using hc 0 v rfl, h2⟩, VC.of_vals h3 (fun c hm => h1 c (List.mem_cons_of_mem _ hm)) fun j u hj => by rw [← hc (j + 1) u (by simpa using hj)]; congr 2; omega⟩
theorem oneP_val {p : PV} {v : Value} (h : oneP p = true) (hv : VRel φ w S p v) : v.oneCell' = true := by
  cases p <;> simp only [VRel, IRel, oneP] at h hv <;> first
    | (subst hv; rfl)
    | (obtain ⟨l, _, rfl⟩ := hv; rfl)
    | (obtain ⟨l, a, c, _, rfl, _⟩ := hv; rfl)
    | (obtain ⟨a, c, rfl, _⟩ := hv; rfl)
    | (obtain ⟨a, c, rfl, _⟩ := hv; rfl)
    | (simp at h; done)
theorem VC.append : ∀ {l m : List PV} {b o : Nat}, VC φ w S l b o → VC φ w S m b (o + l.length) → VC φ w S (l ++ m) b o
  | [], _, _, _, _, h' => by simpa using h'
  | p :: ps, m, b, o, h, h' => ⟨h.1, VC.append h.2 (by rw [show o + 1 + ps.length = o + (p :: ps).length from by simp; omega]; exact h')⟩
theorem VC.left : ∀ {l m : List PV} {b o : Nat}, VC φ w S (l ++ m) b o → VC φ w S l b o
  | [], _, _, _, _ => trivial
  | _ :: _, _, _, _, h => ⟨h.1, VC.left h.2⟩
theorem VC.right : ∀ {l m : List PV} {b o : Nat}, VC φ w S (l ++ m) b o → VC φ w S m b (o + l.length)
  | [], _, _, _, h => by simpa using h
  | p :: ps, _, _, o, h => by
    have := VC.right (l := ps) h.2
    rw [show o + (p :: ps).length = o + 1 + ps.length from by simp; omega]; exact this
theorem VE.flat : ∀ {l : List (List PV)} {b o : Nat}, VE φ w S l b o → VC φ w S l.flatten b o
  | [], _, _, _ => trivial
  | c :: cs, b, o, h => by
    rw [List.flatten_cons]; exact VC.append h.1 (VE.flat h.2)
theorem VE.of_flat : ∀ {l : List (List PV)} {b o : Nat}, VC φ w S l.flatten b o → VE φ w S l b o
  | [], _, _, _ => trivial
  | c :: cs, b, o, h => by
    rw [List.flatten_cons] at h
    exact ⟨VC.left h, VE.of_flat (VC.right h)⟩
theorem VE.append : ∀ {l m : List (List PV)} {b o z : Nat}, (∀ c ∈ l, c.length = z) → VE φ w S l b o → VE φ w S m b (o + l.length * z) → VE φ w S (l ++ m) b o
  | [], _, _, _, _, _, _, h' => by simpa using h'
  | p :: ps, m, b, o, z, hz, h, h' => by
    refine ⟨h.1, VE.append (fun c hc => hz c (List.mem_cons_of_mem _ hc)) h.2 ?_⟩
    have : p.length = z := hz p List.mem_cons_self
    rw [show o + p.length + ps.length * z = o + (p :: ps).length * z from by simp [this, Nat.add_mul]; omega]; exact h'
theorem VE.left : ∀ {l m : List (List PV)} {b o : Nat}, VE φ w S (l ++ m) b o → VE φ w S l b o
  | [], _, _, _, _ => trivial
  | _ :: _, _, _, _, h => ⟨h.1, VE.left h.2⟩
theorem VE.right : ∀ {l m : List (List PV)} {b o z : Nat}, (∀ c ∈ l, c.length = z) → VE φ w S (l ++ m) b o → VE φ w S m b (o + l.length * z)
  | [], _, _, _, _, _, h => by simpa using h
  | p :: ps, _, _, o, z, hz, h => by
    have := VE.right (l := ps) (fun c hc => hz c (List.mem_cons_of_mem _ hc)) h.2
    have hp : p.length = z := hz p List.mem_cons_self
    rw [show o + (p :: ps).length * z = o + p.length + ps.length * z from by simp [hp, Nat.add_mul]; omega]; exact this
theorem VE.get {l : List (List PV)} {b o z i : Nat} {c : List PV} (hz : ∀ c ∈ l, c.length = z) (h : VE φ w S l b o) (hi : l[i]? = some c) : VC φ w S c b (o + i * z) := by
  have hlt : i < l.length := (List.getElem?_eq_some_iff.1 hi).1
  have hsp : l = l.take i ++ (c :: l.drop (i + 1)) := by
    have := List.getElem?_eq_some_iff.1 hi
    rw [← this.2]; simp
  rw [hsp] at h
  have := VE.right (z := z) (fun c hc => hz c (List.mem_of_mem_take hc)) h
  rw [List.length_take, Nat.min_eq_left (by omega)] at this
  exact this.1
end

/-- Is a member a row or a map (not given up)? -/
def Mem.alive : Mem → Bool
  | .dead => false
  | _ => true

structure RowAt (φ : Phi) (w : World) (S : Nat → Prop) (l : Loc) (es : List (List PV)) (z : Nat) (m : Bool) : Prop where
  zs : l.z = z
  top : es.length * z ≤ l.top
  wid : ∀ c ∈ es, c.length = z
  cells : VE φ w S es l.b l.o
  blk : ∃ cur e fz, w.heap[l.b]? = some (.cells cur e fz) ∧ l.o + l.top ≤ cur.size ∧ (m = true → ∀ j, j < cur.size → w.frozen? ⟨l.b, j, none⟩ = false)
  own : m = true → ¬ S l.b
  frz : m = false → S l.b

structure Inv (φ : Phi) (H : List Mem) (w : World) (S : Nat → Prop) (B : Nat) : Prop where
  live : ∀ id l, φ id = some l → B ≤ l.b ∧ l.b < w.heap.size ∧ id < H.length
  row : ∀ id l es z m, φ id = some l → H[id]? = some (.row es z m) → RowAt φ w S l es z m
  map : ∀ id l es, φ id = some l → H[id]? = some (.map es) → ¬ S l.b ∧ ∃ ents clock, w.heap[l.b]? = some (.map ents clock) ∧ VM φ w S es ents.toList
  apart : ∀ id id' l l' m m', id ≠ id' → φ id = some l → φ id' = some l' → H[id]? = some m → H[id']? = some m' → m.alive = true → m'.alive = true → l.b ≠ l'.b
  stable : ∀ b, S b → b < w.heap.size
  base : B ≤ w.heap.size

/-- How the relation goes on: of the numbers below k all stay where they are. -/
structure Evo (k B : Nat) (φ : Phi) (S : Nat → Prop) (w : World) (φ' : Phi) (S' : Nat → Prop) (w' : World) : Prop where
  phi : ∀ id l, id < k → φ id = some l → φ' id = some l
  st : ∀ b, S b → S' b ∧ w'.heap[b]? = w.heap[b]?
  old : ∀ b, b < B → S' b → S b
  below : Below B w w'

theorem Evo.refl (k B : Nat) (φ : Phi) (S : Nat → Prop) (w : World) : Evo k B φ S w φ S w :=
  ⟨fun _ _ _ h => h, fun _ h => ⟨h, rfl⟩, fun _ _ h => h, Below.refl _ _⟩
theorem Evo.trans {k B : Nat} {φ φ' φ'' : Phi} {S S' S'' : Nat → Prop} {w w' w'' : World} (h : Evo k B φ S w φ' S' w') (h' : Evo k B φ' S' w' φ'' S'' w'') : Evo k B φ S w φ'' S'' w'' :=
  ⟨fun id l hk hl => h'.phi id l hk (h.phi id l hk hl), fun b hb => ⟨(h'.st b (h.st b hb).1).1, ((h'.st b (h.st b hb).1).2).trans (h.st b hb).2⟩, fun b hb hs => h.old b hb (h'.old b hb hs), h.below.trans h'.below⟩
theorem Evo.mono {k k' B : Nat} {φ φ' : Phi} {S S' : Nat → Prop} {w w' : World} (h : Evo k B φ S w φ' S' w') (hk : k' ≤ k) : Evo k' B φ S w φ' S' w' :=
  ⟨fun id l hi hl => h.phi id l (by omega) hl, h.st, h.old, h.below⟩

theorem VRel.evo {k B : Nat} {φ φ' : Phi} {S S' : Nat → Prop} {w w' : World} {H : List Mem} {p : PV} {v : Value} (hv : VRel φ w S p v) (h : Evo k B φ S w φ' S' w') (hi : Inv φ H w S B) (hk : H.length ≤ k) : VRel φ' w' S' p v :=
  VRel.mono (fun id l hl => h.phi id l (by have := (hi.live id l hl).2.2; omega) hl) h.st p v hv
theorem VL.evo {k B : Nat} {φ φ' : Phi} {S S' : Nat → Prop} {w w' : World} {H : List Mem} {p : List PV} {v : List Value} (hv : VL φ w S p v) (h : Evo k B φ S w φ' S' w') (hi : Inv φ H w S B) (hk : H.length ≤ k) : VL φ' w' S' p v :=
  VL.mono (fun id l hl => h.phi id l (by have := (hi.live id l hl).2.2; omega) hl) h.st p v hv

end Go.Am
