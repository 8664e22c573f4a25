/-
  Operations that write: each by its law.
-/
import Derived.Test.YtcclbkkgpcpikaaAm12
set_option linter.unusedSimpArgs false
set_option linter.unusedVariables false
namespace Go.Am
open Go.RowKit

section
variable {P : Program} {h : Hints} {E : Ev} {w : World} {φ : Phi} {S : Nat → Prop} {B : Nat} {H : List Mem}

theorem splice_nil_of {α : Type} (l : List α) (i : Nat) : splice l i [] = l := splice_nil l i
theorem set_same {H : List Mem} {id : Nat} {m : Mem} (h : H[id]? = some m) : H.set id m = H := by
  apply List.ext_getElem?
  intro j
  by_cases hj : id = j
  · subst hj
    rw [List.getElem?_set_self (List.getElem?_eq_some_iff.1 h).1, h]
  · rw [List.getElem?_set_ne hj]

theorem appendH_sound {ts : Array TypeId} {ty : TypeId} {s x v : PV} {sv xv : Value} {H' : List Mem} (hI : Inv φ H w S B) (hop : appendH P H ts s x = some (v, H')) (hs : VRel φ w S s sv) (hx : VRel φ w S x xv) :
    ∃ u w' φ' S', (Builtin.append_ ts ty #[sv, xv]).run P w = .ok u w' ∧ Inv φ' H' w' S' B ∧ Evo H.length B φ S w φ' S' w' ∧ VRel φ' w' S' v u := by
  unfold appendH at hop
  obtain ⟨t, ht, hop⟩ := bind1 hop
  obtain ⟨e, he, hop⟩ := bind1 hop
  obtain ⟨z, hz, hop⟩ := bind1 hop
  obtain ⟨by_, hby, hop⟩ := bind1 hop
  obtain ⟨zero, hzc, hop⟩ := bind1 hop
  obtain ⟨new, hsrc, hop⟩ := bind1 hop
  obtain ⟨⟨hn, hb0, hz0, hzl, hh⟩, hop⟩ := if_some hop
  exact appendS_sound hI ht (telem_spec he) hz hby hzc hsrc hn hb0 hz0 hzl hh hop hs hx

theorem copyH_sound {ts : Array TypeId} {ty : TypeId} {d x v : PV} {dv xv : Value} {H' : List Mem} (hI : Inv φ H w S B) (hop : copyH P H ts d x = some (v, H')) (hd : VRel φ w S d dv) (hx : VRel φ w S x xv) :
    ∃ u w', (Builtin.copy_ ts ty #[dv, xv]).run P w = .ok u w' ∧ Inv φ H' w' S B ∧ Evo H.length B φ S w φ S w' ∧ VRel φ w' S v u := by
  unfold copyH at hop
  obtain ⟨t, ht, g1⟩ := bind1 hop
  obtain ⟨e, he, g2⟩ := bind1 g1
  obtain ⟨z, hz, g3⟩ := bind1 g2
  obtain ⟨src, hsrc, g4⟩ := bind1 g3
  obtain ⟨⟨hz0, hh⟩, g5⟩ := if_some g4
  clear hop g1 g2 g3 g4
  have hop := g5
  clear g5
  have hu := telem_spec he
  obtain ⟨hlen, hwn, vals, hv, ho, hfc⟩ := srcOf_sound (P := P) hI hsrc hx hh
  have ha0 : (#[dv, xv] : Array Value)[0]? = some dv := rfl
  have ha1 : (#[dv, xv] : Array Value)[1]? = some xv := rfl
  split at hop
  · cases hop
    simp only [VRel] at hd; subst hd
    have hfc0 := hfc w 0 (Nat.zero_le _) (fun _ _ => rfl)
    refine ⟨.int .i64 0, w, ?_, hI, Evo.refl _ _ _ _ _, VRel_int _ _⟩
    have hmin : Nat.min src.length 0 = 0 := Nat.min_zero _
    simp only [Builtin.copy_, ht, ha0, ha1, Sem.run_bind, run_underlying hu, Result.andThen_ok, hlen, run_sizeOf' hz, hmin, hfc0]
    rfl
  · rename_i id i n room
    split at hop
    · rename_i es z' hm
      obtain ⟨⟨hzz, hle⟩, hop⟩ := if_some hop
      subst hzz
      cases hop
      simp only [VRel] at hd
      obtain ⟨l, ad, cp, hl, rfl, hncp0, hncp1, hcase⟩ := hd
      have hncp : n ≤ cp := Nat.le_trans hncp0 hncp1
      have hr := hI.row id l es z' true hl hm
      have hk : min src.length n ≤ src.length := Nat.min_le_left _ _
      have hkn : min src.length n ≤ n := Nat.min_le_right _ _
      have hfc0 := hfc w (min src.length n) hk (fun _ _ => rfl)
      have htk : (src.take n).length = min src.length n := by rw [List.length_take, Nat.min_comm]
      have hfl : (src.take n).flatten = src.flatten.take (min src.length n * z') := by
        have h1 : src.flatten = (src.take n).flatten ++ (src.drop n).flatten := by rw [← List.flatten_append, List.take_append_drop]
        have h2 : (src.take n).flatten.length = min src.length n * z' := by rw [flatten_len _ (fun x hx => hwn x (List.mem_of_mem_take hx)), htk]
        rw [h1, ← h2, List.take_left' rfl]
      have hv' : VL φ w S (src.take n).flatten (vals.take (min src.length n * z')) := by rw [hfl]; exact VL.take _ hv
      have hrest : ∀ w', (storeCells ad (vals.take (min src.length n * z'))).run P w = .ok () w' → (Builtin.copy_ ts ty #[.slice (some ad) n cp, xv]).run P w = .ok (.int .i64 (min src.length n : Nat)) w' := by
        intro w' hst
        have hmin : Nat.min src.length n = min src.length n := rfl
        simp only [Builtin.copy_, ht, ha0, ha1, Sem.run_bind, run_underlying hu, Result.andThen_ok, hlen, run_sizeOf' hz, hmin, hfc0, List.toList_toArray, hst]
        rfl
      rcases hcase with ⟨h0, _⟩ | ⟨rfl, _⟩
      · subst h0
        have e0 : src.take 0 = [] := rfl
        have e1 : min src.length 0 = 0 := Nat.min_zero _
        refine ⟨_, w, hrest w (by rw [e1]; simp [storeCells]), ?_, Evo.refl _ _ _ _ _, VRel_int _ _⟩
        rw [e0, splice_nil, set_same hm]
        exact hI
      · obtain ⟨h1, h2, h3⟩ := row_splice (P := P) (i := i) (new := src.take n) hI hl hm (fun c hc => hwn c (List.mem_of_mem_take hc)) hv' (fun c hc => ho c (by rw [hfl] at hc; exact List.mem_of_mem_take hc)) (by rw [htk]; omega)
        rw [hr.zs] at hrest ⊢
        exact ⟨_, _, hrest _ h1, h2, h3, VRel_int _ _⟩
    · cases hop
  · cases hop

theorem clearH_sound {ts : Array TypeId} {ty : TypeId} {d v : PV} {dv : Value} {H' : List Mem} (hI : Inv φ H w S B) (hop : clearH P H ts d = some (v, H')) (hd : VRel φ w S d dv) :
    ∃ u w', (Builtin.clear_ ts ty #[dv]).run P w = .ok u w' ∧ Inv φ H' w' S B ∧ Evo H.length B φ S w φ S w' ∧ VRel φ w' S v u := by
  unfold clearH at hop
  obtain ⟨t, ht, g1⟩ := bind1 hop
  obtain ⟨e, he, g2⟩ := bind1 g1
  obtain ⟨z, hz, g3⟩ := bind1 g2
  obtain ⟨zero, hzc, g4⟩ := bind1 g3
  obtain ⟨⟨hz0, hzl⟩, g5⟩ := if_some g4
  clear hop g1 g2 g3 g4
  have hop := g5
  clear g5
  have hu := telem_spec he
  obtain ⟨ti, zv, hti, hzi, hzv, hzo⟩ := zcells_sound (w := w) (φ := φ) (S := S) hzc
  have hzr : (zeroValue e).run P w = .ok zv w := by simp [zeroValue, typeInfo, hti, hzi]
  have hzvs : zv.cells.size = z := by have := VL.length hzv; simpa [hzl] using this
  have ha0 : (#[dv] : Array Value)[0]? = some dv := rfl
  have htup : VRel φ w S (.tup []) (.tuple #[]) := by simp only [VRel, VL]; exact ⟨#[], rfl, rfl⟩
  split at hop
  · cases hop
    simp only [VRel] at hd; subst hd
    refine ⟨.tuple #[], w, ?_, hI, Evo.refl _ _ _ _ _, htup⟩
    simp only [Builtin.clear_, ht, ha0, Sem.run_bind, run_underlying hu, Result.andThen_ok]
    rfl
  · rename_i id i n room
    split at hop
    · rename_i es z' hm
      obtain ⟨⟨hzz, hle⟩, hop⟩ := if_some hop
      subst hzz
      cases hop
      simp only [VRel] at hd
      obtain ⟨l, ad, cp, hl, rfl, hncp0, hncp1, hcase⟩ := hd
      have hncp : n ≤ cp := Nat.le_trans hncp0 hncp1
      have hr := hI.row id l es z' true hl hm
      cases n with
      | zero =>
        refine ⟨.tuple #[], w, ?_, ?_, Evo.refl _ _ _ _ _, htup⟩
        · simp only [Builtin.clear_, ht, ha0, Sem.run_bind, run_underlying hu, Result.andThen_ok]
          rfl
        · rw [List.replicate_zero, splice_nil, set_same hm]; exact hI
      | succ n =>
        rcases hcase with ⟨h0, _⟩ | ⟨rfl, _⟩
        · omega
        · have hrep : ∀ k, VL φ w S (List.replicate k zero).flatten (List.replicate k zv.cells.toList).flatten := by
            intro k
            induction k with
            | zero => simp [VL]
            | succ k ih => simp only [List.replicate_succ, List.flatten_cons]; exact VL.append hzv ih
          obtain ⟨h1, h2, h3⟩ := row_splice (P := P) (i := i) (new := List.replicate (n + 1) zero) hI hl hm (by intro c hc; rw [(List.mem_replicate.1 hc).2]; exact hzl) (hrep (n + 1))
            (by intro x hx; simp only [List.mem_flatten, List.mem_replicate] at hx; obtain ⟨y, ⟨_, rfl⟩, hx⟩ := hx; exact hzo x hx) (by simpa using hle)
          refine ⟨.tuple #[], _, ?_, h2, h3, ?_⟩
          · have hzc2 : (Builtin.zeroCells zv.cells (n + 1)).toList = (List.replicate (n + 1) zv.cells.toList).flatten := by rw [zeroCells_eq]; exact toList_madeCells _ _
            simp only [Builtin.clear_, ht, ha0, Sem.run_bind, run_underlying hu, Result.andThen_ok, hzr, hzc2]
            rw [hr.zs, h1]
            rfl
          · simp only [VRel, VL]; exact ⟨#[], rfl, rfl⟩
    · cases hop
  · cases hop

/-! maps -/
theorem bytes_beq (a b : ByteArray) : (a == b) = (a.data == b.data) := rfl
theorem bytes_eq {a b : ByteArray} (h : (a == b) = true) : a = b := by
  rw [bytes_beq] at h
  have := eq_of_beq h
  cases a; cases b; simp at this; simp [this]
theorem mapPut_sound {key : ByteArray} {v : PV} {vv : Value} : ∀ {es es' : List (PV × PV)} {ents : List MapEntry} (i : Nat), mapPut key v es = some es' → VM φ w S es ents → VRel φ w S v vv →
    (∃ j u, Instr.findNow .string (.string key) ents i = some (some (i + j, u)) ∧ ∃ e, ents[j]? = some e ∧ e.key = .string key ∧ VM φ w S es' (ents.modify j fun e => { e with key := .string key, val := vv })) ∨
    (Instr.findNow .string (.string key) ents i = some none ∧ ∀ b, VM φ w S es' (ents ++ [{ key := .string key, val := vv, born := b }]))
  | [], es', ents, i, h, hv, hx => by
    simp only [mapPut, Option.some.injEq] at h; subst h
    simp only [VM] at hv; subst hv
    exact .inr ⟨rfl, fun b => ⟨_, [], rfl, VRel_str _, hx, rfl⟩⟩
  | (k, u) :: es, es', ents, i, h, hv, hx => by
    obtain ⟨e, l', rfl, hk, hv1, hr⟩ := hv
    cases k <;> simp only [mapPut, bytes_list] at h <;> try (cases h; done)
    rename_i st
    have hk' := hk
    simp only [VRel] at hk'
    by_cases hb : (key == st) = true
    · rw [if_pos hb] at h
      cases h
      have hkst : key = st := bytes_eq hb
      left
      refine ⟨0, e.val, by simp only [Instr.findNow, hk', Instr.sameNow, hb, Nat.add_zero], e, rfl, by rw [hk', hkst], ?_⟩
      exact ⟨_, l', rfl, VRel_str _, hx, hr⟩
    · rw [if_neg hb] at h
      have hb' : (key == st) = false := by simpa using hb
      cases hr2 : mapPut key v es with
      | none => simp [hr2] at h
      | some es2 =>
        simp only [hr2, Option.map_some, Option.some.injEq] at h
        subst h
        have hfn : Instr.findNow .string (.string key) (e :: l') i = Instr.findNow .string (.string key) l' (i + 1) := by simp only [Instr.findNow, hk', Instr.sameNow, hb']
        rcases mapPut_sound (i + 1) hr2 hr hx with ⟨j, u', h1, e2, h2, h3, h4⟩ | ⟨h1, h2⟩
        · left
          refine ⟨j + 1, u', by rw [hfn, h1]; congr 3; omega, e2, by simpa using h2, h3, ?_⟩
          exact ⟨e, _, rfl, hk, hv1, h4⟩
        · right
          exact ⟨by rw [hfn, h1], fun b => ⟨e, _, rfl, hk, hv1, h2 b⟩⟩

theorem Inv.patchMap {w' : World} {id : Nat} {l : Loc} {es es' : List (PV × PV)} {ents : Array MapEntry} {clock : Nat} (hI : Inv φ H w S B) (hl : φ id = some l) (hm : H[id]? = some (.map es)) (hstr : w'.os = w.os ∧ w'.tape = w.tape ∧ w'.output = w.output) (hsz : w'.heap.size = w.heap.size)
    (hblk : ∀ b, b ≠ l.b → w'.heap[b]? = w.heap[b]?) (hnew : w'.heap[l.b]? = some (.map ents clock)) (hv : VM φ w S es' ents.toList) : Inv φ (H.set id (.map es')) w' S B ∧ Evo H.length B φ S w φ S w' := by
  obtain ⟨hnS, _⟩ := hI.map id l es hl hm
  have hs : ∀ b, S b → S b ∧ w'.heap[b]? = w.heap[b]? := fun b hb => ⟨hb, hblk b (by rintro rfl; exact hnS hb)⟩
  have hidl := (hI.live id l hl).2.2
  have hget : ∀ j m, (H.set id (.map es'))[j]? = some m → (j = id ∧ m = .map es') ∨ (j ≠ id ∧ H[j]? = some m) := by
    intro j m hj
    by_cases hji : j = id
    · subst hji; simp [hidl] at hj; exact .inl ⟨rfl, hj.symm⟩
    · rw [List.getElem?_set_ne (fun e => hji e.symm)] at hj; exact .inr ⟨hji, hj⟩
  have hap : ∀ j lj m, j ≠ id → φ j = some lj → H[j]? = some m → m.alive = true → lj.b ≠ l.b := fun j lj m hj hlj hmj ha => hI.apart j id lj l m _ hj hlj hl hmj hm ha rfl
  refine ⟨⟨?_, ?_, ?_, ?_, fun b hb => by rw [hsz]; exact hI.stable b hb, by rw [hsz]; exact hI.base⟩, fun i x _ h => h, hs, fun _ _ hx => hx, hstr.1, hstr.2.1, hstr.2.2, by rw [hsz]; exact Nat.le_refl _, fun k hk => hblk k (by have := (hI.live id l hl).1; omega)⟩
  · intro i x hx
    have := hI.live i x hx
    exact ⟨this.1, by rw [hsz]; exact this.2.1, by simpa using this.2.2⟩
  · intro i x es0 z m hx hmi
    rcases hget i _ hmi with ⟨_, h0⟩ | ⟨hne, h0⟩
    · cases h0
    · exact (hI.row i x es0 z m hx h0).mono (fun _ _ h => h) hs (hblk _ (hap i x _ hne hx h0 rfl)) (fun y => y)
  · intro i x es0 hx hmi
    rcases hget i _ hmi with ⟨rfl, h0⟩ | ⟨hne, h0⟩
    · cases h0
      rw [hl] at hx; cases hx
      exact ⟨hnS, ents, clock, hnew, VM.mono (fun _ _ h => h) hs _ _ hv⟩
    · obtain ⟨h3, en, cl, h4, h5⟩ := hI.map i x es0 hx h0
      exact ⟨h3, en, cl, by rw [hblk _ (hap i x _ hne hx h0 rfl)]; exact h4, VM.mono (fun _ _ h => h) hs _ _ h5⟩
  · intro i j x y m m' hij hx hy hmi hmj ha ha'
    rcases hget i _ hmi with ⟨rfl, h0⟩ | ⟨hne, h0⟩
    · rcases hget j _ hmj with ⟨rfl, _⟩ | ⟨hne2, h2⟩
      · exact absurd rfl hij
      · exact hI.apart _ _ x y _ _ hij hx hy hm h2 rfl ha'
    · rcases hget j _ hmj with ⟨rfl, _⟩ | ⟨hne2, h2⟩
      · exact hI.apart _ _ x y _ _ hij hx hy h0 hm ha rfl
      · exact hI.apart _ _ x y _ _ hij hx hy h0 h2 ha ha'

theorem run_setObj_map {r : Nat} {en en' : Array MapEntry} {c c' : Nat} (hb : w.heap[r]? = some (.map en c)) : (setObj r (.map en' c')).run P w = .ok () { w with heap := w.heap.setIfInBounds r (.map en' c') } := by
  simp [setObj, Sem.run, hb]

theorem wMap_sound {t : TypeId} {m k x : PV} {mv kv xv : Value} {H' : List Mem} {v : PV} (hI : Inv φ H w S B) (hop : wMap P H t (some m) (some k) (some x) = some (v, H')) (hm : VRel φ w S m mv) (hk : VRel φ w S k kv) (hx : VRel φ w S x xv) :
    ∃ w', (Instr.mapUpdate t mv kv xv).run P w = .ok () w' ∧ v = .tup [] ∧ Inv φ H' w' S B ∧ Evo H.length B φ S w φ S w' := by
  unfold wMap at hop
  obtain ⟨e, he, g1⟩ := bind1 hop
  simp only [Option.bind_some] at g1
  obtain ⟨key, hkey, g2⟩ := bind1 g1
  clear hop g1
  have hkk := keyOf_spec hkey
  subst hkk
  simp only [VRel] at hk; subst hk
  obtain ⟨kt, hu, hks⟩ := strMap_spec he
  split at g2
  · rename_i id
    split at g2
    · rename_i es hmem
      cases hp : mapPut key x es with
      | none => simp [hp] at g2
      | some es' =>
        simp only [hp, Option.map_some, Option.some.injEq, Prod.mk.injEq] at g2
        obtain ⟨rfl, rfl⟩ := g2
        simp only [VRel] at hm
        obtain ⟨l, hl, rfl⟩ := hm
        obtain ⟨_, ents, clock, hb, hv⟩ := hI.map id l es hl hmem
        have hlt := (hI.live id l hl).2.1
        have hgo : (getObj l.b).run P w = .ok (.map ents clock) w := by simp [getObj, Sem.run, hb]
        have hset : ∀ (en' : Array MapEntry) (c' : Nat), VM φ w S es' en'.toList → Inv φ (H.set id (.map es')) { w with heap := w.heap.setIfInBounds l.b (.map en' c') } S B ∧ Evo H.length B φ S w φ S { w with heap := w.heap.setIfInBounds l.b (.map en' c') } := by
          intro en' c' hv'
          refine hI.patchMap (clock := c') hl hmem ⟨rfl, rfl, rfl⟩ (by simp) (fun b hb' => ?_) ?_ hv'
          · simp only [Array.getElem?_setIfInBounds]
            rw [if_neg (fun e => hb' e.symm)]
          · simp only [Array.getElem?_setIfInBounds]
            simp [hlt]
        rcases mapPut_sound 0 hp hv hx with ⟨j, u, h1, e2, h2, h3, h4⟩ | ⟨h1, h2⟩
        · have hfk : (Instr.findKey kt (.string key) ents.toList).run P w = .ok (some (0 + j, u)) w := by simp [Instr.findKey, run_underlying hks, h1]
          have hs := hset (ents.modify (0 + j) fun e => { e with key := .string key, val := xv }) clock (by rw [Array.toList_modify, Nat.zero_add]; exact h4)
          have h2' : ents[0 + j]? = some e2 := by rw [Nat.zero_add]; simpa using h2
          have hbb : (key == key) = true := by rw [bytes_beq]; exact beq_self_eq_true _
          have hks2 : (Instr.keyThatStays (((ents[0 + j]?).map (·.key)).getD (.string key)) (.string key)).run P w = .ok (.string key) w := by
            rw [h2']
            simp only [Option.map_some, Option.getD_some, h3, Instr.keyThatStays, Instr.sameBits, hbb, if_true, Sem.run_pure]
          refine ⟨_, ?_, rfl, hs.1, hs.2⟩
          simp only [Instr.mapUpdate, Sem.run_bind, run_underlying hu, Result.andThen_ok, hgo, run_checkKey_str hks, hfk, hks2, run_setObj_map hb]
        · have hfk : (Instr.findKey kt (.string key) ents.toList).run P w = .ok none w := by simp [Instr.findKey, run_underlying hks, h1]
          have hs := hset (ents.push { key := .string key, val := xv, born := clock }) (clock + 1) (by rw [Array.toList_push]; exact h2 clock)
          refine ⟨_, ?_, rfl, hs.1, hs.2⟩
          simp only [Instr.mapUpdate, Sem.run_bind, run_underlying hu, Result.andThen_ok, hgo, run_checkKey_str hks, hfk, run_setObj_map hb]
    · cases g2
  · cases g2

variable {tm : List (Nat × PV)} {N : Nat} {o : Oper} {a : Act} {K : Act → World → Prop} {Q : Exit → Act → World → Prop}

theorem wp_of_skip {w' : World} (h : (execOp a.eval o).run P w = .ok .skip w') (hk : K (a.put o.dst undef) w') : o.wp P a w K Q := by
  unfold Oper.wp; rw [h]; exact hk

/-- What is frozen is stable from then on. -/
theorem freeze1_get (H : List Mem) (i j : Nat) : (freeze1 H i)[j]? = H[j]? ∨ (i = j ∧ ∃ es z m, H[j]? = some (.row es z m) ∧ (freeze1 H i)[j]? = some (.row es z false)) := by
  unfold freeze1
  split
  · rename_i es z m hm
    by_cases hij : i = j
    · subst hij
      right
      exact ⟨rfl, es, z, m, hm, by simp [(List.getElem?_eq_some_iff.1 hm).1]⟩
    · left; rw [List.getElem?_set_ne hij]
  · exact .inl rfl
theorem freeze1_length (H : List Mem) (i : Nat) : (freeze1 H i).length = H.length := by
  unfold freeze1; split <;> simp
theorem freeze_length : ∀ (ids : List Nat) (H : List Mem), (freeze ids H).length = H.length
  | [], H => rfl
  | i :: ids, H => by show (freeze ids (freeze1 H i)).length = _; rw [freeze_length ids, freeze1_length]

theorem Inv.freeze1 (hI : Inv φ H w S B) (i : Nat) : ∃ S', Inv φ (freeze1 H i) w S' B ∧ Evo H.length B φ S w φ S' w ∧ (∀ l es z m, φ i = some l → H[i]? = some (.row es z m) → S' l.b) := by
  cases hl : φ i with
  | none =>
    refine ⟨S, ⟨fun j l h => by rw [freeze1_length]; exact hI.live j l h, ?_, ?_, ?_, hI.stable, hI.base⟩, Evo.refl _ _ _ _ _, fun l es z m h => by cases h⟩
    · intro j l es z m hj hm
      rcases freeze1_get H i j with h | ⟨rfl, _⟩
      · exact hI.row j l es z m hj (by rw [← h]; exact hm)
      · rw [hl] at hj; cases hj
    · intro j l es hj hm
      rcases freeze1_get H i j with h | ⟨rfl, _⟩
      · exact hI.map j l es hj (by rw [← h]; exact hm)
      · rw [hl] at hj; cases hj
    · intro j k x y m m' hjk hx hy hm hm' ha ha'
      rcases freeze1_get H i j with h | ⟨rfl, _⟩
      · rcases freeze1_get H i k with h' | ⟨rfl, _⟩
        · exact hI.apart j k x y m m' hjk hx hy (by rw [← h]; exact hm) (by rw [← h']; exact hm') ha ha'
        · rw [hl] at hy; cases hy
      · rw [hl] at hx; cases hx
  | some l =>
    by_cases hrow : ∃ es z m, H[i]? = some (.row es z m)
    · obtain ⟨es, z, m, hm⟩ := hrow
      let S' : Nat → Prop := fun b => S b ∨ b = l.b
      have hs : ∀ b, S b → S' b ∧ w.heap[b]? = w.heap[b]? := fun b hb => ⟨.inl hb, rfl⟩
      have hB := (hI.live i l hl).1
      have halive : ∀ (j : Nat) (m' : Mem), (Am.freeze1 H i)[j]? = some m' → m'.alive = true → ∃ m2 : Mem, H[j]? = some m2 ∧ m2.alive = true := by
        intro j m' hj ha
        rcases freeze1_get H i j with h | ⟨rfl, es2, z2, m2, h1, h2⟩
        · exact ⟨m', by rw [← h]; exact hj, ha⟩
        · exact ⟨_, h1, rfl⟩
      refine ⟨S', ⟨fun j l h => by rw [freeze1_length]; exact hI.live j l h, ?_, ?_, ?_, ?_, hI.base⟩, ⟨fun _ _ _ h => h, hs, fun b hb h => h.elim id (fun h => by omega), Below.refl _ _⟩, fun l' es z m h _ => by cases h; exact .inr rfl⟩
      · intro j lj es2 z2 m2 hj hm2
        rcases freeze1_get H i j with h | ⟨rfl, es3, z3, m3, h1, h2⟩
        · have hm3 : H[j]? = some (.row es2 z2 m2) := by rw [← h]; exact hm2
          by_cases hij : i = j
          · subst hij
            rw [hl] at hj; cases hj
            have hrr := hI.row i l es2 z2 m2 hl hm3
            refine ⟨hrr.zs, hrr.top, hrr.wid, VE.mono (fun _ _ h => h) hs _ _ _ rfl hrr.cells, hrr.blk, ?_, fun _ => .inr rfl⟩
            intro hmt
            have : (Am.freeze1 H i)[i]? = some (.row es z false) := by unfold Am.freeze1; rw [hm]; simp [(List.getElem?_eq_some_iff.1 hm).1]
            rw [this] at hm2; cases hm2; cases hmt
          · refine (hI.row j lj es2 z2 m2 hj hm3).mono (fun _ _ h => h) hs rfl ?_
            rintro (h' | h')
            · exact h'
            · exact absurd h' (hI.apart j i lj l _ _ (fun e => hij e.symm) hj hl hm3 hm rfl rfl)
        · rw [h2] at hm2; cases hm2
          rw [hl] at hj; cases hj
          have hrr := hI.row i l _ _ m3 hl h1
          exact ⟨hrr.zs, hrr.top, hrr.wid, VE.mono (fun _ _ h => h) hs _ _ _ rfl hrr.cells, by
            obtain ⟨cur, e, fz, h1, h2, _⟩ := hrr.blk
            exact ⟨cur, e, fz, h1, h2, fun h => by cases h⟩, fun h => by (cases h), fun _ => .inr rfl⟩
      · intro j lj es2 hj hm2
        rcases freeze1_get H i j with h | ⟨rfl, es3, z3, m3, h1, h2⟩
        · have hm3 : H[j]? = some (.map es2) := by rw [← h]; exact hm2
          have hij : j ≠ i := by rintro rfl; rw [hm] at hm3; cases hm3
          obtain ⟨h4, ents, clock, h5, h6⟩ := hI.map j lj es2 hj hm3
          refine ⟨?_, ents, clock, h5, VM.mono (fun _ _ h => h) hs _ _ h6⟩
          rintro (h' | h')
          · exact h4 h'
          · exact absurd h' (hI.apart j i lj l _ _ hij hj hl hm3 hm rfl rfl)
        · rw [h2] at hm2; cases hm2
      · intro j k x y m1 m2 hjk hx hy hm1 hm2 ha ha'
        obtain ⟨m1', h1, ha1⟩ := halive j m1 hm1 ha
        obtain ⟨m2', h2, ha2⟩ := halive k m2 hm2 ha'
        exact hI.apart j k x y _ _ hjk hx hy h1 h2 ha1 ha2
      · rintro b (hb | rfl)
        · exact hI.stable b hb
        · exact (hI.live i l hl).2.1
    · have : Am.freeze1 H i = H := by
        unfold Am.freeze1
        split
        · rename_i es z m hm; exact absurd ⟨es, z, m, hm⟩ hrow
        · rfl
      rw [this]
      exact ⟨S, hI, Evo.refl _ _ _ _ _, fun l es z m _ hm => absurd ⟨es, z, m, hm⟩ hrow⟩

theorem Inv.freeze : ∀ (ids : List Nat) {H : List Mem} {S : Nat → Prop}, Inv φ H w S B → ∃ S', Inv φ (freeze ids H) w S' B ∧ Evo H.length B φ S w φ S' w ∧ (∀ i ∈ ids, ∀ l es z m, φ i = some l → H[i]? = some (.row es z m) → S' l.b)
  | [], H, S, hI => ⟨S, hI, Evo.refl _ _ _ _ _, by simp⟩
  | i :: ids, H, S, hI => by
    obtain ⟨S1, h1, h2, h3⟩ := hI.freeze1 i
    obtain ⟨S2, h4, h5, h6⟩ := Inv.freeze ids h1
    refine ⟨S2, h4, h2.trans (by rw [freeze1_length] at h5; exact h5), ?_⟩
    intro j hj l es z m hl hm
    rcases List.mem_cons.1 hj with rfl | hj
    · exact (h5.st _ (h3 l es z m hl hm)).1
    · rcases freeze1_get H i j with h | ⟨rfl, es3, z3, m3, h7, h8⟩
      · exact h6 j hj l es z m hl (by rw [h]; exact hm)
      · exact h6 i hj l es3 z3 false hl h8

end
end Go.Am
