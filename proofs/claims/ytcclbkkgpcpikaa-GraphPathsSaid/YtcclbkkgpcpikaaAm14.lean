/-
  The same operation over a heap with more in it. An operation in its place.
-/
import Derived.Test.YtcclbkkgpcpikaaAm13
set_option linter.unusedSimpArgs false
set_option linter.unusedVariables false
namespace Go.Am
open Go.RowKit

/-- Whatever is in one heap is in the other, be it frozen or not. -/
def Sub (H Hs : List Mem) : Prop := ∀ (id : Nat) (m : Mem), H[id]? = some m → ∃ m', Hs[id]? = some m' ∧ simM m m'

section
variable {P : Program} {h : Hints} {E : Ev} {H Hs : List Mem}

theorem Sub.row (hs : Sub H Hs) {id : Nat} {es : List (List PV)} {z : Nat} {m : Bool} (h : H[id]? = some (.row es z m)) : ∃ m', Hs[id]? = some (.row es z m') := by
  obtain ⟨m', h1, h2⟩ := hs id _ h
  cases m' <;> simp [simM] at h2
  obtain ⟨rfl, rfl⟩ := h2
  exact ⟨_, h1⟩
theorem Sub.map (hs : Sub H Hs) {id : Nat} {es : List (PV × PV)} (h : H[id]? = some (.map es)) : Hs[id]? = some (.map es) := by
  obtain ⟨m', h1, h2⟩ := hs id _ h
  cases m' <;> simp [simM] at h2
  subst h2
  exact h1

theorem elems_mono (hs : Sub H Hs) {x : PV} {es : List (List PV)} (he : elems H x = some es) : elems Hs x = some es := by
  cases x <;> simp only [elems] at he ⊢ <;> try exact he
  rename_i id i n room
  split at he
  · rename_i hm
    obtain ⟨m', hm'⟩ := hs.row hm
    rw [hm']; exact he
  · cases he
theorem loadPV_mono (hs : Sub H Hs) {t : TypeId} {x p : PV} (he : loadPV P H t x = some p) : loadPV P Hs t x = some p := by
  cases x <;> simp only [loadPV] at he ⊢ <;> try exact he
  split at he
  · rename_i hm
    obtain ⟨m', hm'⟩ := hs.row hm
    rw [hm']; exact he
  · cases he
theorem convPV_mono (hs : Sub H Hs) {s d : TypeId} {x p : PV} (he : convPV P H s d x = some p) : convPV P Hs s d x = some p := by
  unfold convPV at he ⊢
  split at he
  · exact he
  · exact he
  · exact he
  · split at he
    · obtain ⟨es, h1, h2⟩ := bind1 he
      simp only [elems_mono hs h1, Option.bind_some]
      exact h2
    · cases he
  · cases he
theorem slicePV_mono (hs : Sub H Hs) {t : TypeId} {x p : PV} {lo hi mx : Option PV} (he : slicePV P H t x lo hi mx = some p) : slicePV P Hs t x lo hi mx = some p := by
  unfold slicePV at he ⊢
  split at he
  · exact he
  · exact he
  · obtain ⟨z, h1, he⟩ := bind1 he
    obtain ⟨⟨l, k, x⟩, h2, he⟩ := bind1 he
    simp only [h1, h2, Option.bind_some]
    simp only [] at he
    split at he
    · rename_i hm
      obtain ⟨m', hm'⟩ := hs.row hm
      rw [hm']; exact he
    · cases he
  · exact he
  · cases he
theorem indexAddrPV_mono (hs : Sub H Hs) {t : TypeId} {x ix p : PV} (he : indexAddrPV P H t x ix = some p) : indexAddrPV P Hs t x ix = some p := by
  unfold indexAddrPV at he ⊢
  split at he
  · split at he
    · exact he
    · obtain ⟨z, h1, he⟩ := bind1 he
      simp only [h1, Option.bind_some]
      obtain ⟨hb, he⟩ := if_some he
      rw [if_pos hb]
      split at he
      · rename_i hm
        obtain ⟨m', hm'⟩ := hs.row hm
        rw [hm']; exact he
      · cases he
    · exact he
    · exact he
    · cases he
  · cases he
theorem lenPV_mono (hs : Sub H Hs) {t : TypeId} {x p : PV} (he : lenPV P H t x = some p) : lenPV P Hs t x = some p := by
  unfold lenPV at he ⊢
  split at he <;> try exact he
  split at he
  · rename_i hm
    rw [hs.map hm]; exact he
  · cases he
theorem mapOf_mono (hs : Sub H Hs) {x : PV} {es : List (PV × PV)} (he : mapOf H x = some es) : mapOf Hs x = some es := by
  cases x <;> simp only [mapOf] at he ⊢ <;> try exact he
  split at he
  · rename_i hm
    rw [hs.map hm]; exact he
  · cases he
theorem lookupPV_mono (hs : Sub H Hs) {t : TypeId} {x k p : PV} {ok : Bool} (he : lookupPV P H t x k ok = some p) : lookupPV P Hs t x k ok = some p := by
  unfold lookupPV at he ⊢
  obtain ⟨e, h1, he⟩ := bind1 he
  obtain ⟨key, h2, he⟩ := bind1 he
  obtain ⟨es, h3, he⟩ := bind1 he
  simp only [h1, h2, mapOf_mono hs h3, Option.bind_some]
  exact he
theorem builtinR_mono (hs : Sub H Hs) {b : Builtin} {ts : Array TypeId} {vs : List PV} {p : PV} (he : builtinR P H b ts vs = some p) : builtinR P Hs b ts vs = some p := by
  unfold builtinR at he ⊢
  split at he
  · obtain ⟨t, h1, he⟩ := bind1 he
    simp only [h1, Option.bind_some]
    exact lenPV_mono hs he
  · exact he
  · exact he
  · cases he

theorem omap_mono {α β : Type} {f g : α → Option β} : ∀ {l : List α} {r : List β}, (∀ x ∈ l, ∀ b, f x = some b → g x = some b) → omap f l = some r → omap g l = some r
  | [], r, _, h => h
  | x :: l, r, hfg, h => by
    obtain ⟨b, s, h1, h2, rfl⟩ := omap_cons_some h
    rw [omap_cons, hfg x List.mem_cons_self b h1]
    simp only [Option.bind_some]
    rw [omap_mono (fun y hy => hfg y (List.mem_cons_of_mem _ hy)) h2]
    rfl
theorem flatMap_congr' {α β : Type} {f g : α → List β} : ∀ {l : List α}, (∀ x ∈ l, f x = g x) → l.flatMap f = l.flatMap g
  | [], _ => rfl
  | x :: l, h => by rw [List.flatMap_cons, List.flatMap_cons, h x List.mem_cons_self, flatMap_congr' fun y hy => h y (List.mem_cons_of_mem _ hy)]
theorem omap_some_of {α β : Type} {f : α → Option β} : ∀ {l : List α} {r : List β}, omap f l = some r → ∀ x ∈ l, ∃ b, f x = some b
  | [], r, _, x, hx => by simp at hx
  | y :: l, r, h, x, hx => by
    obtain ⟨b, s, h1, h2, rfl⟩ := omap_cons_some h
    rcases List.mem_cons.1 hx with rfl | hx
    · exact ⟨b, h1⟩
    · exact omap_some_of h2 x hx

theorem exp_mono (hs : Sub H Hs) : ∀ (n : Nat) (v q : PV), exp n H v = some q → exp n Hs v = some q ∧ rch n Hs v = rch n H v
  | 0, v, q, h => by simp [exp] at h
  | n + 1, v, q, h => by
    have ih := exp_mono hs n
    have ihl : ∀ (l r : List PV), omap (exp n H) l = some r → omap (exp n Hs) l = some r ∧ l.flatMap (rch n Hs) = l.flatMap (rch n H) := by
      intro l r hl
      refine ⟨omap_mono (fun x _ b hb => (ih x b hb).1) hl, flatMap_congr' fun x hx => ?_⟩
      obtain ⟨b, hb⟩ := omap_some_of hl x hx
      exact (ih x b hb).2
    cases v with
    | ref id i l room =>
      simp only [exp, rch] at h ⊢
      split at h
      · rename_i es z m hm
        obtain ⟨m', hm'⟩ := hs.row hm
        obtain ⟨hle, h⟩ := if_some h
        cases he : omap (omap (exp n H)) ((es.drop i).take l) with
        | none => simp [he] at h
        | some qs =>
          have h1 : omap (omap (exp n Hs)) ((es.drop i).take l) = some qs := omap_mono (fun x _ b hb => (ihl x b hb).1) he
          refine ⟨by simp only [hm', if_pos hle, h1]; rw [he] at h; exact h, ?_⟩
          simp only [hm', hm]
          congr 1
          exact flatMap_congr' fun x hx => by
            obtain ⟨b, hb⟩ := omap_some_of he x hx
            exact (ihl x b hb).2
      · cases h
    | ptr id i r =>
      simp only [exp, rch] at h ⊢
      split at h
      · rename_i es z m hm
        obtain ⟨m', hm'⟩ := hs.row hm
        obtain ⟨c, hc, h⟩ := bind1 h
        cases he : omap (exp n H) c with
        | none => simp [he] at h
        | some qs =>
          obtain ⟨h1, h2⟩ := ihl c qs he
          refine ⟨by simp only [hm', hc, Option.bind_some, h1]; rw [he] at h; exact h, ?_⟩
          simp only [hm', hm, hc, Option.getD_some, h2]
      · cases h
    | func f a c =>
      simp only [exp, rch] at h ⊢
      obtain ⟨a', h1, h⟩ := bind1 h
      cases h2 : omap (exp n H) c with
      | none => simp [h2] at h
      | some c' =>
        obtain ⟨h3, h4⟩ := ihl a a' h1
        obtain ⟨h5, h6⟩ := ihl c c' h2
        exact ⟨by rw [h3, h5]; rw [h2] at h; exact h, by rw [h4, h6]⟩
    | agg cs =>
      simp only [exp, rch] at h ⊢
      cases h2 : omap (exp n H) cs with
      | none => simp [h2] at h
      | some c' =>
        obtain ⟨h5, h6⟩ := ihl cs c' h2
        exact ⟨by rw [h5]; rw [h2] at h; exact h, h6⟩
    | tup cs =>
      simp only [exp, rch] at h ⊢
      cases h2 : omap (exp n H) cs with
      | none => simp [h2] at h
      | some c' =>
        obtain ⟨h5, h6⟩ := ihl cs c' h2
        exact ⟨by rw [h5]; rw [h2] at h; exact h, h6⟩
    | map id => simp [exp] at h
    | _ => exact ⟨by simpa only [exp] using h, rfl⟩

theorem callC_mono (hs : Sub H Hs) {f : FuncId} {args : List PV} {base : Nat} {r : PV × List Mem × List Nat} (hc : callC h E f args H base = some r) : callC h E f args Hs base = some r := by
  unfold callC at hc ⊢
  obtain ⟨qs, h1, hc⟩ := bind1 hc
  have h2 : omap (exp expFuel Hs) args = some qs := omap_mono (fun x _ b hb => (exp_mono hs _ x b hb).1) h1
  have h3 : args.flatMap (rch expFuel Hs) = args.flatMap (rch expFuel H) := flatMap_congr' fun x hx => by
    obtain ⟨b, hb⟩ := omap_some_of h1 x hx
    exact (exp_mono hs _ x b hb).2
  rw [h2, Option.bind_some]
  unfold impC pureC at hc ⊢
  rw [h3]
  exact hc

theorem val_mono {x y : Option PV} (hxy : ∀ p, x = some p → y = some p) {r : PV × List Mem × List Nat} (hv : val x = some r) : val y = some r := by
  cases x with
  | none => simp [val] at hv
  | some p => rw [hxy p rfl]; exact hv

theorem opR_mono (hs : Sub H Hs) {base : Nat} {ρ : Operand → Option PV} {o : Oper} {r : PV × List Mem × List Nat} (ho : opR P h E H base ρ o = some r) : opR P h E Hs base ρ o = some r := by
  unfold opR at ho ⊢
  cases hop : o.op <;> simp only [hop] at ho ⊢ <;> try exact ho
  · exact val_mono (fun p hp => by
      unfold aLoad at hp ⊢
      obtain ⟨q, h1, h2⟩ := bind1 hp
      simp only [h1, Option.bind_some]; exact loadPV_mono hs h2) ho
  · exact val_mono (fun p hp => by
      unfold aConv at hp ⊢
      obtain ⟨q, h1, h2⟩ := bind1 hp
      simp only [h1, Option.bind_some]; exact convPV_mono hs h2) ho
  · exact val_mono (fun p hp => by
      unfold aSlice at hp ⊢
      obtain ⟨q, h1, hp⟩ := bind1 hp
      obtain ⟨l, h2, hp⟩ := bind1 hp
      obtain ⟨k, h3, hp⟩ := bind1 hp
      obtain ⟨m, h4, hp⟩ := bind1 hp
      simp only [h1, h2, h3, h4, Option.bind_some]; exact slicePV_mono hs hp) ho
  · exact val_mono (fun p hp => by
      unfold aIndexAddr at hp ⊢
      obtain ⟨q, r, h1, h2, h3⟩ := bind2 hp
      simp only [h1, h2, Option.bind_some]; exact indexAddrPV_mono hs h3) ho
  · exact val_mono (fun p hp => by
      unfold aLookup at hp ⊢
      obtain ⟨q, r, h1, h2, h3⟩ := bind2 hp
      simp only [h1, h2, Option.bind_some]; exact lookupPV_mono hs h3) ho
  · rename_i c
    unfold aCallR at ho ⊢
    cases hc : c.callee with
    | builtin b =>
      simp only [hc] at ho ⊢
      exact val_mono (fun p hp => by
        unfold aBuiltinR at hp ⊢
        obtain ⟨q, h1, h2⟩ := bind1 hp
        simp only [h1, Option.bind_some]; exact builtinR_mono hs h2) ho
    | value x =>
      cases x <;> simp only [hc] at ho ⊢ <;> try exact ho
      unfold aCallC at ho ⊢
      obtain ⟨hn, ho⟩ := if_none ho
      rw [if_neg hn]
      obtain ⟨vs, h1, h2⟩ := bind1 ho
      simp only [h1, Option.bind_some]
      exact callC_mono hs h2
    | invoke _ _ => simp only [hc] at ho; cases ho

theorem freeze_sub : ∀ (ids : List Nat) (H : List Mem), ∀ (j : Nat) (m : Mem), H[j]? = some m → ∃ m', (freeze ids H)[j]? = some m' ∧ simM m m'
  | [], H, j, m, h => ⟨m, h, simM.refl m⟩
  | i :: ids, H, j, m, h => by
    show ∃ m', (freeze ids (freeze1 H i))[j]? = some m' ∧ simM m m'
    rcases freeze1_get H i j with h1 | ⟨rfl, es, z, b, h1, h2⟩
    · exact freeze_sub ids (freeze1 H i) j m (by rw [h1]; exact h)
    · obtain ⟨m', h3, h4⟩ := freeze_sub ids (freeze1 H i) i _ h2
      rw [h] at h1; cases h1
      refine ⟨m', h3, ?_⟩
      cases m' <;> simp [simM] at h4 ⊢
      exact h4
theorem freeze_row : ∀ (ids : List Nat) (H : List Mem) (j : Nat) (es : List (List PV)) (z : Nat) (m : Bool), (freeze ids H)[j]? = some (.row es z m) → ∃ m', H[j]? = some (.row es z m')
  | [], H, j, es, z, m, h => ⟨m, h⟩
  | i :: ids, H, j, es, z, m, h => by
    obtain ⟨m', h1⟩ := freeze_row ids (freeze1 H i) j es z m h
    rcases freeze1_get H i j with h2 | ⟨rfl, es', z', b, h2, h3⟩
    · exact ⟨m', by rw [← h2]; exact h1⟩
    · rw [h3] at h1; cases h1; exact ⟨b, h2⟩
theorem Sub.freeze (ids : List Nat) (H ms : List Mem) : Sub H (freeze ids H ++ ms) := by
  intro j m h
  obtain ⟨m', h1, h2⟩ := freeze_sub ids H j m h
  exact ⟨m', by rw [List.getElem?_append_left (List.getElem?_eq_some_iff.1 h1).1]; exact h1, h2⟩

/-! an operation in its place -/
theorem out0_val (H : List Mem) (x : Option PV) : out0 H x = outR H (val x) := by cases x <;> simp [out0, outR, val, freeze]
theorem opA_R {ρ : Operand → Option PV} {o : Oper} (hw : isW h o = false) : opA P h E H ρ o = outR H (opR P h E H H.length ρ o) := by
  unfold isW at hw
  unfold opA opR
  cases hop : o.op <;> simp only [hop, out0_val] at hw ⊢ <;> try (first | rfl | (simp at hw; done))
  rename_i c
  unfold isWC at hw
  unfold aCall aCallR
  cases hc : c.callee with
  | builtin b => cases b <;> simp only [hc, out0_val] at hw ⊢ <;> first | rfl | (simp at hw; done)
  | value x =>
    cases x <;> simp only [hc] at hw ⊢ <;> try (simp at hw; done)
    unfold aCallC
    rw [if_neg (by simp [hw]), if_neg (by simp [hw])]
  | invoke _ _ => simp [hc] at hw
theorem opA_W {ρ : Operand → Option PV} {o : Oper} (hw : isW h o = true) : opA P h E H ρ o = opW P h E H ρ o := by
  unfold isW at hw
  unfold opA opW
  cases hop : o.op <;> simp only [hop] at hw ⊢ <;> try (first | rfl | (simp at hw; done))
  rename_i c
  unfold isWC at hw
  unfold aCall wCall
  cases hc : c.callee with
  | builtin b => cases b <;> simp only [hc] at hw ⊢ <;> first | rfl | (simp at hw; done)
  | value x =>
    cases x <;> simp only [hc] at hw ⊢
    rw [if_pos (by simpa using hw)]
  | invoke _ _ => rfl

end
end Go.Am
