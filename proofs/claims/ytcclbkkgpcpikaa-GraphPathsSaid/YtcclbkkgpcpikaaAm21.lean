/-
  What a claim's reading says of an argument: a plain value by content, of a certain form.
-/
import Derived.Test.YtcclbkkgpcpikaaAm20
import Derived.ProofKit
import Derived.SizedLaws
set_option linter.unusedSimpArgs false
set_option linter.unusedVariables false
namespace Go.Am
open Go.RowKit

inductive Ty where
  | bool
  | int (k : IntKind)
  | str
  | slice (e : Ty) (bytes : Nat)
  | agg (ps : List Ty)
  deriving Inhabited

mutual
/-- The cells of a value of a type. -/
def HasTy : Ty → List PV → Prop
  | .bool, cs => ∃ b, cs = [.bool b]
  | .int k, cs => ∃ n, cs = [.int k n] ∧ (Lit.int k n).wf = true
  | .str, cs => ∃ s, cs = [.str s] ∧ s.size ≤ reachBytes
  | .slice e bytes, cs => cs = [.nils] ∨ ∃ es, cs = [.lst es] ∧ es.length ≤ maxLen ∧ es.length * bytes ≤ reachBytes ∧ ∀ c ∈ es, HasTy e c
  | .agg ps, cs => HasTys ps cs
def HasTys : List Ty → List PV → Prop
  | [], cs => cs = []
  | p :: ps, cs => ∃ a b, cs = a ++ b ∧ HasTy p a ∧ HasTys ps b
end

noncomputable def segsTy (P : Program) (tot : Nat) (rec : TypeId → Option Ty) : List (Nat × TypeId) → Nat → Option (List Ty)
  | [], off => if off = tot then some [] else none
  | (o, t) :: r, off => if o = off then (rec t).bind fun x => (segsTy P tot rec r (off + P.cellsOf t)).map (x :: ·) else none
noncomputable def segsOf (P : Program) (t : TypeId) : Option (List (Nat × TypeId)) :=
  match P.underlying t with
  | some (.struct fs) => some (fs.toList.map fun f => (f.offset, f.type))
  | some (.array n e) => some ((List.range n).map fun i => (i * P.cellsOf e, e))
  | _ => none
noncomputable def tyOf (P : Program) : Nat → TypeId → Option Ty
  | 0, _ => none
  | n + 1, t => match P.underlying t with
    | some .bool => some .bool
    | some (.int k) => some (.int k)
    | some .string => some .str
    | some (.slice e) => (tyOf P n e).bind fun x => if 0 < P.cellsOf e then some (.slice x (P.bytesOf e)) else none
    | _ => (segsOf P t).bind fun segs => (segsTy P (P.cellsOf t) (tyOf P n) segs 0).map .agg

section
variable {H : Type} {enc : TypeId × Value → H} {P : Program} {w : World} {S : Nat → Prop}

theorem LRel_append : ∀ {l m : List PV} {vs us : List Value}, LRel w S l vs → LRel w S m us → LRel w S (l ++ m) (vs ++ us)
  | [], _, _, _, h, h' => by simp only [LRel] at h; subst h; simpa using h'
  | p :: ps, _, _, _, h, h' => by
    simp only [LRel] at h
    obtain ⟨v, r, rfl, h2, h3⟩ := h
    show LRel w S (p :: (ps ++ _)) (v :: (r ++ _))
    simp only [LRel]
    exact ⟨v, _, rfl, h2, LRel_append h3 h'⟩
theorem LRel_length : ∀ {l : List PV} {vs : List Value}, LRel w S l vs → l.length = vs.length
  | [], _, h => by simp only [LRel] at h; subst h; rfl
  | p :: ps, _, h => by
    simp only [LRel] at h
    obtain ⟨v, r, rfl, _, h3⟩ := h
    simp [LRel_length h3]
theorem CsRel_of : ∀ {l : List PV} {vs : List Value} {b o : Nat}, LRel w S l vs → (∀ c ∈ l, oneP c = true) → (∀ (j : Nat) (v : Value), vs[j]? = some v → w.cell? ⟨b, o + j, none⟩ = some v) → CsRel w S l b o
  | [], _, _, _, _, _, _ => by simp only [CsRel]
  | p :: ps, vs, b, o, h, h1, hc => by
    simp only [LRel] at h
    obtain ⟨v, r, rfl, h2, h3⟩ := h
    simp only [CsRel]
    exact ⟨⟨h1 p List.mem_cons_self, v, by simpa using hc 0 v rfl, h2⟩, CsRel_of h3 (fun c hm => h1 c (List.mem_cons_of_mem _ hm)) fun j u hj => by rw [← hc (j + 1) u (by simpa using hj)]; congr 2; omega⟩
theorem EsRel_of {z : Nat} : ∀ {l : List (List PV)} {b o : Nat}, (∀ c ∈ l, c.length = z) → (∀ (i : Nat) (c : List PV), l[i]? = some c → CsRel w S c b (o + i * z)) → EsRel w S l b o
  | [], _, _, _, _ => by simp only [EsRel]
  | c :: cs, b, o, hz, h => by
    simp only [EsRel]
    refine ⟨by simpa using h 0 c rfl, EsRel_of (fun x hx => hz x (List.mem_cons_of_mem _ hx)) fun i x hx => ?_⟩
    have h1 := h (i + 1) x (by simpa using hx)
    rw [show o + c.length + i * z = o + (i + 1) * z from by rw [hz c List.mem_cons_self, Nat.add_mul]; omega]
    exact h1

/-- Read data whose slices and strings are not too large. -/
def Lim (P : Program) (t : TypeId) (d : DataW H) : Prop := ∀ n ∈ d.weights P t, n ≤ reachBytes

theorem weights_all : ∀ {ds : List (DataW H)} {e : TypeId} {d : DataW H}, d ∈ ds → ∀ n ∈ d.weights P e, n ∈ DataW.weightsAll P e ds
  | x :: ds, e, d, hd, n, hn => by
    simp only [DataW.weightsAll, List.mem_append]
    rcases List.mem_cons.1 hd with rfl | hd
    · exact .inl hn
    · exact .inr (weights_all hd n hn)

/-- What is claimed of a reading. -/
def Got (w : World) (ty : Ty) (cs : List Value) : Prop := ∃ qs, HasTy ty qs ∧ LRel w (fun b => b < w.heap.size) qs cs ∧ ∀ q ∈ qs, oneP q = true

theorem segs_got {α : Type} (rec : TypeId → Option Ty) (f : TypeId → List Value → Option (DataW H × List MemPlace)) (hrec : ∀ t ty, rec t = some ty → ∀ cs d ps, f t cs = some (d, ps) → (∀ x ∈ ps, x.block < w.heap.size) → Lim P t d → Got w ty cs) (cs : List Value) (g : α → Nat × TypeId) :
    ∀ (l : List α) (off : Nat) (tys : List Ty) (xs : List (DataW H × List MemPlace)), segsTy P cs.length rec (l.map g) off = some tys → l.mapM (fun x => f (g x).2 ((cs.drop (g x).1).take (P.cellsOf (g x).2))) = some xs →
      (∀ x ∈ xs, ∀ p ∈ x.2, p.block < w.heap.size) → (∀ (i : Nat) (a : α) (x : DataW H × List MemPlace), l[i]? = some a → xs[i]? = some x → Lim P (g a).2 x.1) →
      ∃ qs, HasTys tys qs ∧ LRel w (fun b => b < w.heap.size) qs (cs.drop off) ∧ ∀ q ∈ qs, oneP q = true
  | [], off, tys, xs, hs, hm, _, _ => by
    simp only [List.map_nil, segsTy] at hs
    obtain ⟨ho, hs⟩ := if_some hs
    cases hs
    exact ⟨[], by simp only [HasTys], by rw [ho]; simp [LRel], by simp⟩
  | a :: l, off, tys, xs, hs, hm, hp, hl => by
    simp only [List.map_cons] at hs
    rw [show g a = ((g a).1, (g a).2) from rfl] at hs
    simp only [segsTy] at hs
    obtain ⟨ho, hs⟩ := if_some hs
    obtain ⟨ty, h1, hs⟩ := bind1 hs
    cases hr : segsTy P cs.length rec (l.map g) (off + P.cellsOf (g a).2) with
    | none => simp [hr] at hs
    | some tys' =>
      simp only [hr, Option.map_some, Option.some.injEq] at hs
      subst hs
      rw [List.mapM_cons] at hm
      cases hfa : f (g a).2 ((cs.drop (g a).1).take (P.cellsOf (g a).2)) with
      | none => rw [hfa] at hm; simp at hm
      | some x =>
        rw [hfa] at hm
        cases hml : l.mapM (fun x => f (g x).2 ((cs.drop (g x).1).take (P.cellsOf (g x).2))) with
        | none => rw [hml] at hm; simp at hm
        | some xs' =>
          rw [hml] at hm
          simp at hm
          subst hm
          obtain ⟨q1, h2, h3, h4⟩ := hrec _ _ h1 _ x.1 x.2 hfa (hp x List.mem_cons_self) (hl 0 a x rfl rfl)
          obtain ⟨q2, h5, h6, h7⟩ := segs_got rec f hrec cs g l _ tys' xs' hr hml (fun y hy => hp y (List.mem_cons_of_mem _ hy)) (fun i b y hb hy => hl (i + 1) b y (by simpa using hb) (by simpa using hy))
          refine ⟨q1 ++ q2, ⟨q1, q2, rfl, h2, h5⟩, ?_, ?_⟩
          · rw [ho] at h3
            have := LRel_append h3 h6
            rw [show cs.drop (off + P.cellsOf (g a).2) = (cs.drop off).drop (P.cellsOf (g a).2) from by rw [List.drop_drop], List.take_append_drop] at this
            exact this
          · intro q hq
            rcases List.mem_append.1 hq with hq | hq
            · exact h4 q hq
            · exact h7 q hq

theorem trod_got : ∀ (n : Nat) (t : TypeId) (ty : Ty), tyOf P n t = some ty → ∀ (fuel : Nat) (cs : List Value) (d : DataW H) (ps : List MemPlace), DataW.trod enc P w 0 (fun _ => true) true fuel t cs = some (d, ps) →
    (∀ x ∈ ps, x.block < w.heap.size) → Lim P t d → Got w ty cs
  | 0, t, ty, h => by simp [tyOf] at h
  | n + 1, t, ty, h => by
    have ih := trod_got n
    intro fuel cs d ps ht hps hlim
    cases fuel with
    | zero => simp [DataW.trod] at ht
    | succ fuel =>
      have aggs : ∀ segs, segsOf P t = some segs → (segsOf P t).bind (fun segs => (segsTy P (P.cellsOf t) (tyOf P n) segs 0).map Ty.agg) = some ty → Got w ty cs := by
        intro segs hsegs hb
        rw [hsegs, Option.bind_some] at hb
        cases hst : segsTy P (P.cellsOf t) (tyOf P n) segs 0 with
        | none => simp [hst] at hb
        | some tys =>
          simp only [hst, Option.map_some, Option.some.injEq] at hb
          subst hb
          unfold segsOf at hsegs
          split at hsegs
          · rename_i fs hu
            cases hsegs
            simp only [DataW.trod, hu] at ht
            obtain ⟨hlen, ht⟩ := if_some ht
            cases hm : fs.toList.mapM (fun f => DataW.trod enc P w 0 (fun _ => true) true fuel f.type ((cs.drop f.offset).take (P.cellsOf f.type))) with
            | none => rw [hm] at ht; simp at ht
            | some xs =>
              rw [hm] at ht
              simp only [Option.map_some, Option.some.injEq, Prod.mk.injEq] at ht
              obtain ⟨rfl, rfl⟩ := ht
              have hxl := mapM_some_length hm
              obtain ⟨qs, h1, h2, h3⟩ := segs_got (w := w) (P := P) (tyOf P n) (fun t cs => DataW.trod enc P w 0 (fun _ => true) true fuel t cs) (fun t ty h1 cs d ps h2 h3 h4 => ih t ty h1 fuel cs d ps h2 h3 h4) cs (fun f : Field => (f.offset, f.type)) fs.toList 0 tys xs (by rw [hlen]; exact hst) hm
                (fun x hx p hp => hps p (List.mem_flatMap.2 ⟨x, hx, hp⟩))
                (fun i a x ha hx m hm => hlim m (by
                  simp only [DataW.weights, hu]
                  exact DataW.weights_mem_each (j := i) (by simp [ha]) (by simp [hx]) m hm))
              exact ⟨qs, by simp only [HasTy]; exact h1, by simpa using h2, h3⟩
          · rename_i k e hu
            cases hsegs
            simp only [DataW.trod, hu] at ht
            obtain ⟨hlen, ht⟩ := if_some ht
            cases hm : (List.range k).mapM (fun i => DataW.trod enc P w 0 (fun _ => true) true fuel e ((cs.drop (i * P.cellsOf e)).take (P.cellsOf e))) with
            | none => rw [hm] at ht; simp at ht
            | some xs =>
              rw [hm] at ht
              simp only [Option.map_some, Option.some.injEq, Prod.mk.injEq] at ht
              obtain ⟨rfl, rfl⟩ := ht
              obtain ⟨qs, h1, h2, h3⟩ := segs_got (w := w) (P := P) (tyOf P n) (fun t cs => DataW.trod enc P w 0 (fun _ => true) true fuel t cs) (fun t ty h1 cs d ps h2 h3 h4 => ih t ty h1 fuel cs d ps h2 h3 h4) cs (fun i : Nat => (i * P.cellsOf e, e)) (List.range k) 0 tys xs (by rw [hlen]; exact hst) hm
                (fun x hx p hp => hps p (List.mem_flatMap.2 ⟨x, hx, hp⟩))
                (fun i a x _ hx m hm => hlim m (by
                  simp only [DataW.weights, hu]
                  exact weights_all (List.mem_map_of_mem (List.mem_of_getElem? hx)) m hm))
              exact ⟨qs, by simp only [HasTy]; exact h1, by simpa using h2, h3⟩
          · cases hsegs
      -- one cell
      have one : ∀ {v : Value} {q : PV}, HasTy ty [q] → IRel w (fun b => b < w.heap.size) q v → oneP q = true → cs = [v] → Got w ty cs := by
        intro v q h1 h2 h3 h4
        subst h4
        exact ⟨[q], h1, by simp only [LRel]; exact ⟨v, [], rfl, h2, rfl⟩, by simpa using h3⟩
      unfold tyOf at h
      split at h
      · rename_i hu
        cases h
        match cs, ht with
        | [.bool b], ht => exact one (v := .bool b) (q := .bool b) (by simp [HasTy]) (by simp only [IRel]) rfl rfl
        | [], ht => simp [DataW.trod, hu] at ht
        | v :: u :: r, ht => cases v <;> simp [DataW.trod, hu] at ht
        | [.int _ _], ht | [.float _ _], ht | [.string _], ht | [.pointer _], ht | [.slice _ _ _], ht | [.agg _], ht | [.tuple _], ht | [.nilFunc], ht | [.map _], ht | [.func _ _ _], ht => simp [DataW.trod, hu] at ht
        | [v], ht => cases v <;> first | (simp [DataW.trod, hu] at ht; done) | (rename_i b; exact one (v := .bool b) (q := .bool b) (by simp [HasTy]) (by simp only [IRel]) rfl rfl)
      · rename_i k hu
        cases h
        match cs, ht with
        | [], ht => simp [DataW.trod, hu] at ht
        | v :: u :: r, ht => cases v <;> simp [DataW.trod, hu] at ht
        | [v], ht =>
          cases v <;> try (simp [DataW.trod, hu] at ht; done)
          rename_i k' m
          simp only [DataW.trod, hu] at ht
          obtain ⟨⟨rfl, hw⟩, ht⟩ := if_some ht
          exact one (v := .int k' m) (q := .int k' m) (by simp only [HasTy]; exact ⟨m, rfl, hw⟩) (by simp only [IRel]) rfl rfl
      · rename_i hu
        cases h
        match cs, ht with
        | [], ht => simp [DataW.trod, hu] at ht
        | v :: u :: r, ht => cases v <;> simp [DataW.trod, hu] at ht
        | [v], ht =>
          cases v <;> try (simp [DataW.trod, hu] at ht; done)
          rename_i s
          simp only [DataW.trod, hu] at ht
          obtain ⟨_, ht⟩ := if_some ht
          cases ht
          have := hlim s.data.toList.length (by simp [DataW.weights])
          exact one (v := .string s) (q := .str s) (by simp only [HasTy]; exact ⟨s, rfl, by rw [Array.length_toList] at this; exact this⟩) (by simp only [IRel]) rfl rfl
      · rename_i e hu
        obtain ⟨et, h1, h⟩ := bind1 h
        obtain ⟨hz, h⟩ := if_some h
        cases h
        match cs, ht with
        | [], ht => simp [DataW.trod, hu] at ht
        | v :: u :: r, ht => cases v <;> simp [DataW.trod, hu] at ht
        | [v], ht =>
          cases v <;> try (simp [DataW.trod, hu] at ht; done)
          rename_i ao len cap
          cases ao with
          | none =>
            cases len <;> cases cap <;> first
              | (simp [DataW.trod, hu] at ht; done)
              | exact one (v := .slice none 0 0) (q := .nils) (by simp [HasTy]) (by simp only [IRel]) rfl rfl
          | some ad =>
            simp only [DataW.trod, hu] at ht
            obtain ⟨⟨_, hlc, hcm⟩, ht⟩ := if_some ht
            obtain ⟨elems, hm, ht⟩ := bind1 ht
            have fin : ∀ {X : Option (List (DataW H × List MemPlace))}, (X.map fun rest => (DataW.slice (elems.map fun x => x.1) (rest.map fun x => x.1), MemPlace.row ad ((elems.length + rest.length) * P.cellsOf e) ++ (elems ++ rest).flatMap fun x => x.2)) = some (d, ps) →
                ∃ rest : List (DataW H × List MemPlace), DataW.slice (elems.map fun x => x.1) (rest.map fun x => x.1) = d ∧ MemPlace.row ad ((elems.length + rest.length) * P.cellsOf e) ++ (elems ++ rest).flatMap (fun x => x.2) = ps := by
              intro X hX
              cases X with
              | none => cases hX
              | some rest =>
                simp only [Option.map_some, Option.some.injEq, Prod.mk.injEq] at hX
                exact ⟨rest, hX.1, hX.2⟩
            obtain ⟨rest, rfl, rfl⟩ := fin ht
            have hel : elems.length = len := by have := mapM_some_length hm; simpa using this
            have each : ∀ i, ∃ q, i < len → HasTy et q ∧ (∀ c ∈ q, oneP c = true) ∧ ∃ vals, w.cells? 0 (ad.add (i * P.cellsOf e)) (P.cellsOf e) = some vals ∧ LRel w (fun b => b < w.heap.size) q vals := by
              intro i
              by_cases hi : i < len
              · have h2 := mapM_some_get hm i i (by simp [hi])
                obtain ⟨x, hx⟩ : ∃ x, elems[i]? = some x := ⟨elems[i], by simp [hel, hi]⟩
                rw [hx] at h2
                obtain ⟨vals, h3, h4⟩ := bind1 h2
                obtain ⟨q, h5, h6, h7⟩ := ih e et h1 fuel vals x.1 x.2 h4
                  (fun p hp => hps p (List.mem_append_right _ (List.mem_flatMap.2 ⟨x, List.mem_append_left _ (List.mem_of_getElem? hx), hp⟩)))
                  (fun m hm => hlim m (by
                    simp only [DataW.weights, hu, List.mem_cons, List.mem_append]
                    exact .inr (.inl (weights_all (List.mem_map_of_mem (List.mem_of_getElem? hx)) m hm))))
                exact ⟨q, fun _ => ⟨h5, h7, vals, h3, h6⟩⟩
              · exact ⟨[], fun h => absurd h hi⟩
            obtain ⟨q, hq⟩ := Classical.axiomOfChoice each
            have hwt := hlim ((elems.length + rest.length) * P.bytesOf e) (by simp [DataW.weights, hu])
            have hesl : ((List.range len).map q).length = len := by simp
            refine one (v := .slice (some ad) len cap) (q := .lst ((List.range len).map q)) ?_ ?_ rfl rfl
            · simp only [HasTy]
              refine .inr ⟨_, rfl, by rw [hesl]; omega, ?_, ?_⟩
              · rw [hesl]
                exact Nat.le_trans (Nat.mul_le_mul_right _ (by omega)) hwt
              · intro c hc
                obtain ⟨i, hi, rfl⟩ := List.mem_map.1 hc
                exact (hq i (by simpa using hi)).1
            · simp only [IRel]
              refine ⟨ad, cap, by rw [hesl], by rw [hesl]; exact hlc, ?_⟩
              by_cases hl0 : len = 0
              · left; subst hl0; rfl
              · right
                -- the place of the first cell
                obtain ⟨b, o, spot⟩ := ad
                have hspot : spot = none := by
                  obtain ⟨_, _, vals, h3, _⟩ := hq 0 (by omega)
                  obtain ⟨_, h5, h6⟩ := World.cells?_some h3
                  have h7 := h6 0 hz
                  obtain ⟨v0, hv0⟩ : ∃ v0, vals[0]? = some v0 := ⟨vals[0], by simp [h5, hz]⟩
                  rw [hv0] at h7
                  have := World.cell?_spot h7
                  simpa [Addr.add] using this
                subst hspot
                have hadd : ∀ m, (⟨b, o, none⟩ : Addr).add m = ⟨b, o + m, none⟩ := by
                  intro m; unfold Addr.add; split
                  · rename_i h0; subst h0; rfl
                  · rfl
                refine ⟨b, o, P.cellsOf e, rfl, ?_, ?_, EsRel_of (z := P.cellsOf e) ?_ ?_⟩
                · have : MemPlace.cell b o ∈ MemPlace.row ⟨b, o, none⟩ ((elems.length + rest.length) * P.cellsOf e) := by
                    simp only [MemPlace.row, List.mem_map, List.mem_range]
                    exact ⟨0, Nat.mul_pos (by omega) hz, by simp⟩
                  exact hps _ (List.mem_append_left _ this)
                · intro c hc
                  obtain ⟨i, hi, rfl⟩ := List.mem_map.1 hc
                  obtain ⟨_, _, vals, h3, h4⟩ := hq i (by simpa using hi)
                  rw [LRel_length h4, (World.cells?_some h3).2.1]
                · intro c hc
                  obtain ⟨i, hi, rfl⟩ := List.mem_map.1 hc
                  obtain ⟨_, _, vals, h3, h4⟩ := hq i (by simpa using hi)
                  rw [LRel_length h4, (World.cells?_some h3).2.1]
                · intro i c hc
                  have hi : i < len := by
                    have := (List.getElem?_eq_some_iff.1 hc).1
                    simpa using this
                  simp only [List.getElem?_map, List.getElem?_range hi, Option.map_some, Option.some.injEq] at hc
                  subst hc
                  obtain ⟨_, h7, vals, h3, h4⟩ := hq i hi
                  obtain ⟨_, h5, h6⟩ := World.cells?_some h3
                  refine CsRel_of h4 h7 fun j v hj => ?_
                  have hjl : j < P.cellsOf e := by
                    have := (List.getElem?_eq_some_iff.1 hj).1
                    omega
                  have h8 := h6 j hjl
                  have hadd2 : ((⟨b, o, none⟩ : Addr).add (i * P.cellsOf e)).add j = ⟨b, o + i * P.cellsOf e + j, none⟩ := by
                    rw [hadd]; unfold Addr.add; split
                    · rename_i h0; subst h0; rfl
                    · rfl
                  rw [hadd2, hj] at h8
                  exact h8
      · cases hs : segsOf P t with
        | none => rw [hs] at h; cases h
        | some segs => exact aggs segs hs h
end
end Go.Am
