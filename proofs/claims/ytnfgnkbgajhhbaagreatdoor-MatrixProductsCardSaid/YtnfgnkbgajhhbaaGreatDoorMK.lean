/-
 matrix.Apply, matrix.Transpose.
-/
import Derived.Test.YtnfgnkbgajhhbaaGreatDoorMI
set_option linter.constructorNameAsVariable false
set_option linter.unusedSimpArgs false
set_option linter.unusedVariables false
namespace Go.Proofs.YtnfgnkbgajhhbaaGreatDoor
open Go.Am Go.Tx Dv Go.Lib
set_option maxRecDepth 100000
theorem ZmS : ∀ {l : List (List UInt8)}, (∀ a ∈ l, Zby a = 0) → ∃ ps : List Rat, l = ps.map ZaK ∧ ∀ p ∈ ps, ZgG p = true
 | [], _ => ⟨[], rfl, fun _ h => absurd h List.not_mem_nil⟩
 | a :: l, h => by
  obtain ⟨p, h1, h2⟩ := Zme (h a List.mem_cons_self)
  obtain ⟨ps, h3, h4⟩ := ZmS (l := l) (fun b hb => h b (List.mem_cons_of_mem _ hb))
  refine ⟨p :: ps, by rw [List.map_cons, ← h1, ← h3], fun q hq => ?_⟩
  rcases List.mem_cons.1 hq with rfl | hq
  ·exact h2
  ·exact h4 q hq
theorem ZlX {w : Int} : ∀ {m : List (List (List UInt8))}, Zpg w m = 0 → ∀ r ∈ m, (r.length : Int) = w ∧ Zcy r = 0
 | [], _, _, hr => absurd hr List.not_mem_nil
 | x :: l, h, r, hr => by
  rw [Zpg] at h
  cases h1 : decide ((x.length : Int) = w) with
  | false => rw [h1] at h; cases h
  | true =>
   rw [h1] at h
   simp only at h
   cases h2 : decide (Zcy x = 0) with
   | false => rw [h2] at h; exact absurd h (of_decide_eq_false h2)
   | true =>
    rw [h2] at h
    rcases List.mem_cons.1 hr with rfl | hr
    ·exact ⟨of_decide_eq_true h1, of_decide_eq_true h2⟩
    ·exact ZlX h r hr
theorem Zhq : ∀ pss : List (List Rat), wid (Za1 pss) = ZbM pss
 | [] => rfl
 | ps :: _ => List.length_map _
structure Mat (m : List (List (List UInt8))) (pss : List (List Rat)) : Prop where
 txt : m = Za1 pss
 fit : ∀ ps ∈ pss, ∀ p ∈ ps, ZgG p = true
 len : pss.length ≤ 40
 row : ∀ ps ∈ pss, ps.length = ZbM pss
 wid : ZbM pss ≤ 40
theorem ZoC : ∀ {m : List (List (List UInt8))}, (∀ r ∈ m, Zcy r = 0) → ∃ pss : List (List Rat), m = Za1 pss ∧ (∀ ps ∈ pss, ∀ p ∈ ps, ZgG p = true) ∧ ∀ ps ∈ pss, ps.length ≤ 40
 | [], _ => ⟨[], rfl, fun _ h => absurd h List.not_mem_nil, fun _ h => absurd h List.not_mem_nil⟩
 | r :: m, h => by
  obtain ⟨h1, h2⟩ := ZlA (h r List.mem_cons_self)
  obtain ⟨ps, rfl, h3⟩ := ZmS (ZfX h2)
  obtain ⟨pss, rfl, h4, h5⟩ := ZoC (m := m) (fun x hx => h x (List.mem_cons_of_mem _ hx))
  rw [List.length_map] at h1
  refine ⟨ps :: pss, rfl, fun x hx => ?_, fun x hx => ?_⟩
  ·rcases List.mem_cons.1 hx with rfl | hx
   ·exact h3
   ·exact h4 x hx
  ·rcases List.mem_cons.1 hx with rfl | hx
   ·exact h1
   ·exact h5 x hx
theorem ZdO {m : List (List (List UInt8))} (h : Zba m = 0) : ∃ pss, Mat m pss := by
 have hE : Zba m = match decide ((40 : Int) < (m.length : Int)) with | true => 2 | false => Zpg (wid m : Nat) m := rfl
 rw [hE] at h
 cases h1 : decide ((40 : Int) < (m.length : Int)) with
 | true => rw [h1] at h; cases h
 | false =>
  rw [h1] at h
  have h2 := ZlX h
  obtain ⟨pss, rfl, h3, h4⟩ := ZoC (fun r hr => (h2 r hr).2)
  have hl : (Za1 pss).length = pss.length := List.length_map _
  refine ⟨pss, rfl, h3, by have := of_decide_eq_false h1; rw [hl] at this; omega, fun ps hp => ?_, ?_⟩
  ·have := (h2 (ps.map ZaK) (List.mem_map_of_mem hp)).1
   rw [List.length_map, Zhq] at this
   omega
  ·cases pss with
   | nil => exact Nat.zero_le _
   | cons ps _ => exact h4 ps List.mem_cons_self
theorem ZrN (m : List (List (List UInt8))) : PureOK Tryz.prog Zat 52 [.v (.l (.l .s)) m] (fun V => V = .v (.i .i64) ((wid m : Nat) : Int)) := by
 refine Zai Zaj Tryz.func52 ?_
 refine And.intro (fun h => ?_) (fun h => ?_)
 ·have h' : decide ((m.length : Int) = 0) = true := h
  have h0 : m.length = 0 := by have := of_decide_eq_true h'; omega
  rw [List.length_eq_zero_iff.1 h0]
  rfl
 ·have h' : decide ((m.length : Int) = 0) = false := h
  cases m with
  | nil => cases h'
  | cons r m => exact ⟨r, Int.le_refl 0, rfl, rfl⟩
theorem ZfL (pss : List (List Rat)) : (Ze3 pss).length = pss.length := List.length_map _
theorem Zt0 : ∀ pss : List (List Rat), ZbM (Ze3 pss) = ZbM pss
 | [] => rfl
 | _ :: _ => List.length_map _
theorem ZvJ (w : Nat) (pss : List (List Rat)) : trD (Zbs 0) w (Ze3 pss) = Ze3 (trD 0 w pss) := by
 rw [trD, trD]
 show (List.range w).map (Zgq (Zbs 0) (Ze3 pss)) = ((List.range w).map (Zgq 0 pss)).map fun ps => ps.map Zbs
 rw [List.map_map]
 refine List.map_congr_left fun c _ => ?_
 show Zgq (Zbs 0) (Ze3 pss) c = (Zgq 0 pss c).map Zbs
 rw [Zgq, Ze3, Zgq, List.map_map, List.map_map]
 refine List.map_congr_left fun ps _ => ?_
 show (ps.map Zbs).getD c (Zbs 0) = Zbs (ps.getD c 0)
 rw [List.getD_eq_getElem?_getD, List.getD_eq_getElem?_getD, List.getElem?_map]
 cases ps[c]? <;> rfl
theorem ZgM (pss : List (List Rat)) (hr : ∀ ps ∈ pss, ps.length = ZbM pss) (hw : ZbM pss ≤ 1000) (hl : pss.length ≤ 1000) : PureOK Tryz.prog Zat 54 [.v (.l (.l qct)) (Ze3 pss)] (fun V => V = .v (.l (.l qct)) (Ze3 (trD 0 (ZbM pss) pss))) := by
 have := ZkV (Ze3 pss) (Zbs 0) (ZbM pss) (fun r h => by
  obtain ⟨ps, h1, rfl⟩ := List.mem_map.1 h
  rw [List.length_map]
  exact hr ps h1) (Zt0 pss) hw (by rw [ZfL]; exact hl)
 rwa [ZvJ] at this
theorem Zgh {α : Type} (z : α) (w : Nat) (m : List (List α)) : (trD z w m).length = w := by rw [trD, List.length_map, List.length_range]
theorem ZrS {α : Type} {z : α} {w : Nat} {m : List (List α)} {r : List α} (h : r ∈ trD z w m) : r.length = m.length := by
 obtain ⟨c, _, rfl⟩ := List.mem_map.1 h
 exact List.length_map _
theorem ZqS {w : Nat} {pss : List (List Rat)} (hf : ∀ ps ∈ pss, ∀ p ∈ ps, ZgG p = true) (hr : ∀ ps ∈ pss, ps.length = w) : ∀ ps ∈ trD 0 w pss, ∀ p ∈ ps, ZgG p = true := by
 intro ps hp p hpp
 obtain ⟨c, hc, rfl⟩ := List.mem_map.1 hp
 obtain ⟨r, hr1, rfl⟩ := List.mem_map.1 hpp
 have hcl := List.mem_range.1 hc
 have := hr r hr1
 rw [List.getD_eq_getElem?_getD, List.getElem?_eq_getElem (by omega)]
 exact hf r hr1 _ (List.getElem_mem _)
theorem Zhs (m : List (List (List UInt8))) (hm : ∀ r ∈ m, ∀ a ∈ r, a.length ≤ 9223372036854775806) : PureOK Tryz.prog Zat 16 [.v (.l (.l .s)) m] (fun V => (decide (Zba m = 0) = false ∧ V = .tup [.nils, .v (.i .i64) (Zba m)]) ∨ (Zba m = 0 ∧ ∃ pss, Mat m pss ∧ V = .tup [.v (.l (.l .s)) (Za1 (trD 0 (ZbM pss) pss)), .v (.i .i64) (0 : Int)])) := by
 refine Zai Zaj Tryz.func16 ?_
 refine (Zg9 m hm).mono ?_
 rintro _ rfl
 refine And.intro (fun h => ?_) (fun h => ?_)
 ·have h' : (!decide (Zba m = 0)) = true := h
  exact .inl ⟨by cases hd : decide (Zba m = 0) <;> simp [hd] at h' ⊢, rfl⟩
 ·have h' : (!decide (Zba m = 0)) = false := h
  have h0 : Zba m = 0 := by simpa using h'
  obtain ⟨pss, hM⟩ := ZdO h0
  obtain ⟨rfl, hf, hl, hr, hw⟩ := hM
  refine (Zhh pss (by omega) (fun ps hp => by rw [hr ps hp]; omega) hf).mono ?_
  rintro _ rfl
  refine (ZgM pss hr (by omega) (by omega)).mono ?_
  rintro _ rfl
  refine (ZrX (trD 0 (ZbM pss) pss) (by rw [Zgh]; omega) (fun ps hp => by rw [ZrS hp]; omega)).mono ?_
  rw [Zut, Zki (ZqS hf hr)]
  rintro _ rfl
  exact .inr ⟨h0, pss, ⟨rfl, hf, hl, hr, hw⟩, rfl⟩
noncomputable def ZdS (m : List (List (List UInt8))) (v : List (List UInt8)) : Int := match decide (ZfC (Zba m) (Zcy v) = 0) with
 | false => ZfC (Zba m) (Zcy v)
 | true => match decide ((0 : Int) < (m.length : Int)) && !decide (((wid m : Nat) : Int) = (v.length : Int)) with
  | true => 3
  | false => 0
def ZlW (m : List (List (List UInt8))) (v : List (List UInt8)) (V : SV) : Prop := (decide (ZdS m v = 0) = false ∧ V = .tup [.nils, .v (.i .i64) (ZdS m v)]) ∨
 (ZdS m v = 0 ∧ Zba m = 0 ∧ ∃ pss qs, Mat m pss ∧ v = qs.map ZaK ∧ (∀ q ∈ qs, ZgG q = true) ∧ qs.length ≤ 40 ∧ (∀ ps ∈ pss, ps.length = qs.length) ∧ V = Zs1 (pss.map fun ps => ZbU ps qs))
theorem Zjk {m : List (List (List UInt8))} {v : List (List UInt8)} {e : Int} (h : ZdS m v = e) (hd : decide (e = 0) = false) : ZlW m v (.tup [.nils, .v (.i .i64) e]) := by
 subst h
 exact .inl ⟨hd, rfl⟩
set_option maxHeartbeats 8000000 in
theorem Zr2 (m : List (List (List UInt8))) (v : List (List UInt8)) (hm : ∀ r ∈ m, ∀ a ∈ r, a.length ≤ 9223372036854775806) (hv : ∀ a ∈ v, a.length ≤ 9223372036854775806) : PureOK Tryz.prog Zat 15 [.v (.l (.l .s)) m, .v (.l .s) v] (ZlW m v) := by
 refine Zai Zaj Tryz.func15 ?_
 have hE : ZdS m v = match decide (ZfC (Zba m) (Zcy v) = 0) with | false => ZfC (Zba m) (Zcy v) | true => match decide ((0 : Int) < (m.length : Int)) && !decide (((wid m : Nat) : Int) = (v.length : Int)) with | true => 3 | false => 0 := rfl
 have c1 := Zg9 m hm
 have c2 := ZiQ v hv
 have c3 := Zls (Zba m) (Zcy v)
 have c4 := ZrN m
 have hz : ZfC (Zba m) (Zcy v) = 0 → Zba m = 0 ∧ Zcy v = 0 := Zld
 obtain ⟨E, eE⟩ : ∃ x, ZfC (Zba m) (Zcy v) = x := ⟨_, rfl⟩
 rw [eE] at c3 hE hz
 refine c1.mono ?_
 rintro _ rfl
 refine c2.mono ?_
 rintro _ rfl
 refine And.intro (show 0 + 2 ≤ 2 by decide) ?_
 refine c3.mono ?_
 rintro _ rfl
 refine And.intro (fun h => ?_) (fun h => ?_)
 ·have h' : (!decide (E = 0)) = true := h
  have hd : decide (E = 0) = false := by cases hd : decide (E = 0) <;> simp [hd] at h' ⊢
  rw [hd] at hE
  exact Zjk hE hd
 have h' : (!decide (E = 0)) = false := h
 have h0 : E = 0 := by simpa using h'
 obtain ⟨z1, z2⟩ := hz h0
 rw [decide_eq_true h0] at hE
 simp only at hE
 obtain ⟨pss, hM⟩ := ZdO z1
 obtain ⟨z3, z4⟩ := ZlA z2
 obtain ⟨qs, hqs, hqf⟩ := ZmS (ZfX z4)
 have hql : v.length = qs.length := by rw [hqs, List.length_map]
 obtain ⟨g, hg⟩ : ∃ x, decide ((0 : Int) < (m.length : Int)) = x := ⟨_, rfl⟩
 obtain ⟨u, hu⟩ : ∃ x, (!decide (((wid m : Nat) : Int) = (v.length : Int))) = x := ⟨_, rfl⟩
 rw [hg, hu] at hE
 have main : (g && u) = false → ∀ ps ∈ pss, ps.length = qs.length := by
  intro hgu ps hps
  have hml : m.length = pss.length := by rw [hM.txt]; exact List.length_map _
  have hpos : 0 < pss.length := List.length_pos_of_mem hps
  have g1 : g = true := by rw [← hg]; exact decide_eq_true (by omega)
  rw [g1, Bool.true_and] at hgu
  rw [hgu] at hu
  have hw : ((wid m : Nat) : Int) = (v.length : Int) := by simpa using hu
  rw [hM.txt, Zhq] at hw
  rw [hM.row ps hps]
  omega
 have hPA : PureOK Tryz.prog Zat 57 [.v (.l .s) v] (fun V => V = QL qs) := by rw [hqs]; exact ZiV qs (by omega) hqf
 obtain ⟨htx, hf, hl, hr, hw⟩ := hM
 have hVa : PureOK Tryz.prog Zat 53 [.v (.l (.l .s)) m] (fun V => V = .v (.l (.l qct)) (Ze3 pss)) := by rw [htx]; exact Zhh pss (by omega) (fun ps hp => by rw [hr ps hp]; omega) hf
 have hTV := ZkY (pss.map fun ps => ZbU ps qs) (by rw [List.length_map]; omega)
 have hll : (Ze3 pss).length = pss.length := ZfL pss
 have hgx := fun i (h : i < pss.length) => Zkk h
 obtain ⟨L, hL⟩ : ∃ l, Ze3 pss = l := ⟨_, rfl⟩
 rw [hL] at hll hgx hVa
 have c3way : (g = true ∧ u = true) ∨ (g = true ∧ u = false) ∨ g = false := by cases g <;> cases u <;> simp
 rcases c3way with ⟨rfl, rfl⟩ | ⟨rfl, rfl⟩ | rfl
 ·skip
  repeat (first | refine Zak ?_ | refine Zaf ?_ | refine Zac ?_)
  first | refine Zab (Zaa (id := 4) rfl ?_) | refine Zab (Zab (Zaa (id := 4) rfl ?_)) | refine Zaa (id := 4) rfl ?_ | refine Zab (Zad rfl (Zab (Zaa (id := 4) rfl ?_))) | refine Zad rfl (Zab (Zaa (id := 4) rfl ?_))
  refine Zah rfl (fun _ => rfl) rfl rfl ?_
  refine Zah rfl (fun _ => rfl) rfl rfl ?_
  refine Zah rfl (fun _ => rfl) rfl rfl ?_
  refine Zah rfl (fun _ => rfl) rfl rfl ?_
  refine Zag rfl rfl rfl hg (fun _ => rfl) rfl rfl ?_
  refine Za8 rfl rfl rfl hg ((c4).mono ?_)
  rintro _ rfl
  refine ZaG rfl rfl ?_
  refine Zag rfl rfl rfl hg (fun _ => rfl) rfl rfl ?_
  refine Zag rfl rfl rfl hg (fun _ => rfl) rfl rfl ?_
  refine Zag rfl rfl rfl hg (fun _ => rfl) rfl rfl ?_
  refine ZaB rfl rfl rfl hg rfl rfl rfl ?_
  refine Zal ?_
  repeat (first | refine Zaf ?_ | refine Zac ?_)
  refine And.intro (fun _ => ?_) (fun h => by first | (cases h; done) | exact (nf hu h).elim)
  exact Zjk hE rfl
 repeat (first | refine Zak ?_ | refine Zaf ?_ | refine Zac ?_)
 first | refine Zab (Zaa (id := 4) rfl ?_) | refine Zab (Zab (Zaa (id := 4) rfl ?_)) | refine Zaa (id := 4) rfl ?_ | refine Zab (Zad rfl (Zab (Zaa (id := 4) rfl ?_))) | refine Zad rfl (Zab (Zaa (id := 4) rfl ?_))
 refine Zah rfl (fun _ => rfl) rfl rfl ?_
 refine Zah rfl (fun _ => rfl) rfl rfl ?_
 refine Zah rfl (fun _ => rfl) rfl rfl ?_
 refine Zah rfl (fun _ => rfl) rfl rfl ?_
 refine Zag rfl rfl rfl hg (fun _ => rfl) rfl rfl ?_
 refine Za8 rfl rfl rfl hg ((c4).mono ?_)
 rintro _ rfl
 refine ZaG rfl rfl ?_
 refine Zag rfl rfl rfl hg (fun _ => rfl) rfl rfl ?_
 refine Zag rfl rfl rfl hg (fun _ => rfl) rfl rfl ?_
 refine Zag rfl rfl rfl hg (fun _ => rfl) rfl rfl ?_
 refine ZaB rfl rfl rfl hg rfl rfl rfl ?_
 refine Zal ?_
 repeat (first | refine Zaf ?_ | refine Zac ?_)
 refine And.intro (fun h => by first | (cases h; done) | exact (nf h hu).elim) (fun _ => ?_)
 rotate_left 1
 repeat (first | refine Zak ?_ | refine Zaf ?_ | refine Zac ?_)
 first | refine Zab (Zaa (id := 4) rfl ?_) | refine Zab (Zab (Zaa (id := 4) rfl ?_)) | refine Zaa (id := 4) rfl ?_ | refine Zab (Zad rfl (Zab (Zaa (id := 4) rfl ?_))) | refine Zad rfl (Zab (Zaa (id := 4) rfl ?_))
 refine Zah rfl (fun _ => rfl) rfl rfl ?_
 refine Zah rfl (fun _ => rfl) rfl rfl ?_
 refine Zah rfl (fun _ => rfl) rfl rfl ?_
 refine Zah rfl (fun _ => rfl) rfl rfl ?_
 refine Zae rfl rfl rfl hg rfl rfl ?_
 refine Zae rfl rfl rfl hg rfl rfl ?_
 refine Zae rfl rfl rfl hg rfl rfl ?_
 refine Zae rfl rfl rfl hg rfl rfl ?_
 refine Zae rfl rfl rfl hg rfl rfl ?_
 refine Zax rfl rfl rfl hg rfl rfl rfl ?_
 refine Zal ?_
 repeat (first | refine Zaf ?_ | refine Zac ?_)
 refine And.intro (fun h => by first | (cases h; done) | exact (nf h hg).elim) (fun _ => ?_)
 rotate_left 1
 all_goals
  have hlen := main (by rfl)
  have hE2 : ZdS m v = 0 := hE
  refine hPA.mono ?_
  rintro _ rfl
  refine hVa.mono ?_
  rintro _ rfl
  refine Zav Zaj rfl (fun (i : Nat) => [(7, QL qs), (8, .ref 0 0 i none), (33, .v (.l (.l qct)) L), (34, .v (.i .i64) (L.length : Int)), (35, .v (.i .i64) (i : Int))]) (fun i => [.row qct (((pss.take i).map fun ps => ZbU ps qs).map Zbs) true])
   (fun i => i ≤ pss.length) (fun i => pss.length - i) ?_ 0 (Nat.zero_le _) ?_
  ·intro i hi
   refine And.intro (fun h => ?_) (fun h => ?_)
   ·have hlt : i < pss.length := by have h' : (i : Int) < (L.length : Int) := of_decide_eq_true h; omega
    have gx : L[(i : Int).toNat]? = some (pss[i].map Zbs) := by rw [Int.toNat_natCast]; exact hgx i hlt
    have hsn := Ze1 (g := fun ps : List Rat => Zbs (ZbU ps qs)) hlt
    have hpl := hlen pss[i] (List.getElem_mem hlt)
    have hpf := hf pss[i] (List.getElem_mem hlt)
    have wi : IntKind.i64.wrap ((i : Int) + 1) = ((i + 1 : Nat) : Int) := Zam (by omega) (by omega)
    obtain ⟨ps, hq⟩ : ∃ x, pss[i] = x := ⟨_, rfl⟩
    rw [hq] at gx hsn hpl hpf
    have hlen2 : (((pss.take i).map fun ps => ZbU ps qs).map Zbs).length = i := by rw [List.length_map, List.length_map, List.length_take]; omega
    refine ⟨ps.map Zbs, Int.natCast_nonneg i, gx, ?_⟩
    refine (Zuc ps qs hpl (by omega) hpf hqf).mono ?_
    rintro _ rfl
    refine And.intro (show 0 + 1 ≤ 1 by decide) ?_
    refine And.intro (Nat.le_of_eq ((Nat.zero_add i).trans hlen2.symm)) ?_
    refine And.intro (show (i + (0 + 1)) * 64 ≤ 140737488355328 by omega) ?_
    refine ⟨i + 1, hlt, by show pss.length - (i + 1) < pss.length - i; omega, ?_⟩
    refine Zan rfl rfl ?_ ?_
    ·exact ⟨rfl, ⟨rfl, rfl, rfl⟩, rfl, rfl, wi.symm, trivial⟩
    ·refine ⟨⟨?_, fun _ => rfl⟩, trivial⟩
     show (((pss.take (i + 1)).map fun ps => ZbU ps qs).map Zbs) = sub (((pss.take i).map fun ps => ZbU ps qs).map Zbs) 0 i ++ [Zbs (ZbU ps qs)]
     rw [ZfA hlen2, List.map_map, List.map_map]
     exact hsn.symm
   ·have hi2 : i = pss.length := by have h' : ¬ (i : Int) < (L.length : Int) := of_decide_eq_false h; omega
    subst hi2
    have hfl : (((pss.take pss.length).map fun ps => ZbU ps qs).map Zbs).length = pss.length := by rw [List.length_map, List.length_map, List.length_take]; omega
    have e : sub (((pss.take pss.length).map fun ps => ZbU ps qs).map Zbs) 0 pss.length = (pss.map fun ps => ZbU ps qs).map Zbs := by rw [ZfA hfl, List.take_length]
    have hTV2 := hTV
    rw [show QL (pss.map fun ps => ZbU ps qs) = SV.v (.l qct) (sub (((pss.take pss.length).map fun ps => ZbU ps qs).map Zbs) 0 pss.length) from congrArg (SV.v (.l qct)) e.symm] at hTV2
    refine And.intro (Nat.le_of_eq ((Nat.zero_add _).trans hfl.symm)) ?_
    refine hTV2.mono ?_
    intro V hV
    unfold Zs1 at hV
    have fin : ∀ W, W = Zs1 (pss.map fun ps => ZbU ps qs) → ZlW m v W := fun W h => .inr ⟨hE2, z1, pss, qs, ⟨htx, hf, hl, hr, hw⟩, hqs, hqf, by omega, hlen, h⟩
    unfold Zs1 at fin
    cases hff : Zmm (pss.map fun ps => ZbU ps qs) with
    | true =>
     rw [hff] at hV fin
     subst hV
     exact fin _ rfl
    | false =>
     rw [hff] at hV fin
     subst hV
     exact fin _ rfl
  ·refine Zan rfl rfl ?_ ?_
   ·exact ⟨rfl, ⟨rfl, rfl, rfl⟩, rfl, rfl, rfl, trivial⟩
   ·exact ⟨rfl, trivial⟩
end Go.Proofs.YtnfgnkbgajhhbaaGreatDoor
