/-
 matrix.Mul.
-/
import Derived.Test.YtnfgnkbgajhhbaaGreatDoorMK
set_option linter.constructorNameAsVariable false
set_option linter.unusedSimpArgs false
set_option linter.unusedVariables false
namespace Go.Proofs.YtnfgnkbgajhhbaaGreatDoor
open Go.Am Go.Tx Dv Go.Lib
set_option maxRecDepth 100000
def ZuD (pss cols : List (List Rat)) (r c : Nat) : List qct.D := (cols.take c).map fun col => Zbs (ZbU (pss.getD r []) col)
def mpP (pss cols : List (List Rat)) (i k : Nat) : List (List qct.D) := (List.range pss.length).map fun r => ZuD pss cols r (if r < i then cols.length else if r = i then k else 0)
theorem Zcj (pss cols : List (List Rat)) (i k : Nat) : (mpP pss cols i k).length = pss.length := by rw [mpP, List.length_map, List.length_range]
theorem Zim {pss cols : List (List Rat)} {i k r : Nat} (hr : r < (mpP pss cols i k).length) : (mpP pss cols i k)[r] = ZuD pss cols r (if r < i then cols.length else if r = i then k else 0) := by
 simp only [mpP, List.getElem_map, List.getElem_range]
theorem ZuM (pss cols : List (List Rat)) : List.replicate pss.length [] = mpP pss cols 0 0 := by
 apply List.ext_getElem
 ·rw [List.length_replicate, Zcj]
 ·intro r h1 h2
  rw [List.getElem_replicate, Zim h2, if_neg (Nat.not_lt_zero r)]
  split <;> rfl
theorem Ztd (pss cols : List (List Rat)) (i : Nat) : mpP pss cols i cols.length = mpP pss cols (i + 1) 0 := by
 apply List.ext_getElem
 ·rw [Zcj, Zcj]
 ·intro r h1 h2
  rw [Zim h1, Zim h2]
  by_cases h : r < i
  ·rw [if_pos h, if_pos (by omega)]
  ·rw [if_neg h]
   by_cases h3 : r = i
   ·rw [if_pos h3, if_pos (by omega)]
   ·rw [if_neg h3, if_neg (show ¬ r < i + 1 by omega), ite_self]
theorem Zno {pss cols : List (List Rat)} {i k : Nat} (hi : i < (mpP pss cols i k).length) : (mpP pss cols i k)[i] = ZuD pss cols i k := by
 rw [Zim hi, if_neg (Nat.lt_irrefl i), if_pos rfl]
theorem Ztk {pss cols : List (List Rat)} {i k : Nat} (hk : k ≤ cols.length) : (ZuD pss cols i k).length = k := by
 rw [ZuD, List.length_map, List.length_take]; omega
theorem Zs5 {pss cols : List (List Rat)} {i k : Nat} (hi : i < (mpP pss cols i k).length) (hk : k < cols.length) (hp : i < pss.length) : (mpP pss cols i k).set i ((mpP pss cols i k)[i] ++ [Zbs (ZbU pss[i] cols[k])]) = mpP pss cols i (k + 1) := by
 apply List.ext_getElem
 ·rw [List.length_set, Zcj, Zcj]
 ·intro r h1 h2
  rw [List.getElem_set, Zim h2]
  by_cases h : i = r
  ·subst h
   rw [if_pos rfl, if_neg (Nat.lt_irrefl i), if_pos rfl, Zno hi, ZuD, ZuD, List.take_succ_eq_append_getElem hk, List.map_append]
   have e : pss.getD i [] = pss[i] := by rw [List.getD_eq_getElem?_getD, List.getElem?_eq_getElem hp]; rfl
   rw [e]
   rfl
  ·rw [if_neg h, Zim (by rw [Zcj]; rw [Zcj] at h2; exact h2)]
   by_cases h3 : r < i
   ·rw [if_pos h3, if_pos h3]
   ·rw [if_neg h3, if_neg h3, if_neg (fun e => h e.symm), if_neg (fun e => h e.symm)]
def Zc4 (pss qss : List (List Rat)) : List (List Rat) := pss.map fun ps => (trD 0 (ZbM qss) qss).map fun col => ZbU ps col
theorem ZsO (pss qss : List (List Rat)) : mpP pss (trD 0 (ZbM qss) qss) pss.length 0 = Ze3 (Zc4 pss qss) := by
 apply List.ext_getElem
 ·rw [Zcj, ZfL, Zc4, List.length_map]
 ·intro r h1 h2
  rw [Zcj] at h1
  have e : pss.getD r [] = pss[r] := by rw [List.getD_eq_getElem?_getD, List.getElem?_eq_getElem h1]; rfl
  rw [Zim (by rw [Zcj]; exact h1), if_pos h1, ZuD, List.take_length, e]
  simp only [Ze3, Zc4, List.getElem_map]
  rw [List.map_map]
  rfl
noncomputable def Zsp (a b : List (List (List UInt8))) : Int := match decide (ZfC (Zba a) (Zba b) = 0) with
 | false => ZfC (Zba a) (Zba b)
 | true => match !decide (((wid a : Nat) : Int) = (b.length : Int)) with
  | true => 3
  | false => 0
def Zwx (a b : List (List (List UInt8))) (V : SV) : Prop := (decide (Zsp a b = 0) = false ∧ V = .tup [.nils, .v (.i .i64) (Zsp a b)]) ∨
 (Zsp a b = 0 ∧ Zba a = 0 ∧ Zba b = 0 ∧ ∃ pss qss, Mat a pss ∧ Mat b qss ∧ ZbM pss = qss.length ∧ V = Zut (Zc4 pss qss))
theorem ZoL {a b : List (List (List UInt8))} {e : Int} (h : Zsp a b = e) (hd : decide (e = 0) = false) : Zwx a b (.tup [.nils, .v (.i .i64) e]) := by
 subst h
 exact .inl ⟨hd, rfl⟩
set_option maxHeartbeats 8000000 in
theorem Zwd (a b : List (List (List UInt8))) (ha : ∀ r ∈ a, ∀ s ∈ r, s.length ≤ 9223372036854775806) (hb : ∀ r ∈ b, ∀ s ∈ r, s.length ≤ 9223372036854775806) : PureOK Tryz.prog Zat 14 [.v (.l (.l .s)) a, .v (.l (.l .s)) b] (Zwx a b) := by
 refine Zai Zaj Tryz.func14 ?_
 have hE : Zsp a b = match decide (ZfC (Zba a) (Zba b) = 0) with | false => ZfC (Zba a) (Zba b) | true => match !decide (((wid a : Nat) : Int) = (b.length : Int)) with | true => 3 | false => 0 := rfl
 have c3 := Zls (Zba a) (Zba b)
 have hz : ZfC (Zba a) (Zba b) = 0 → Zba a = 0 ∧ Zba b = 0 := Zld
 obtain ⟨E, eE⟩ : ∃ x, ZfC (Zba a) (Zba b) = x := ⟨_, rfl⟩
 rw [eE] at c3 hE hz
 refine (Zg9 a ha).mono ?_
 rintro _ rfl
 refine (Zg9 b hb).mono ?_
 rintro _ rfl
 refine And.intro (show 0 + 2 ≤ 2 by decide) ?_
 refine c3.mono ?_
 rintro _ rfl
 refine And.intro (fun h => ?_) (fun h => ?_)
 ·have h' : (!decide (E = 0)) = true := h
  have hd : decide (E = 0) = false := by cases hd : decide (E = 0) <;> simp [hd] at h' ⊢
  rw [hd] at hE
  exact ZoL hE hd
 have h' : (!decide (E = 0)) = false := h
 have h0 : E = 0 := by simpa using h'
 obtain ⟨z1, z2⟩ := hz h0
 rw [decide_eq_true h0] at hE
 simp only at hE
 obtain ⟨pss, hM⟩ := ZdO z1
 obtain ⟨qss, hN⟩ := ZdO z2
 refine (ZrN a).mono ?_
 rintro _ rfl
 refine And.intro (fun h => ?_) (fun h => ?_)
 ·have h' : (!decide (((wid a : Nat) : Int) = (b.length : Int))) = true := h
  rw [h'] at hE
  exact ZoL hE rfl
 have h' : (!decide (((wid a : Nat) : Int) = (b.length : Int))) = false := h
 rw [h'] at hE
 have hE2 : Zsp a b = 0 := hE
 have hbl : b.length = qss.length := by rw [hN.txt]; exact List.length_map _
 have hwl : ZbM pss = qss.length := by
  have hw : ((wid a : Nat) : Int) = (b.length : Int) := by simpa using h'
  rw [hM.txt, Zhq] at hw
  omega
 have hM2 := hM
 have hN2 := hN
 obtain ⟨ptx, pf, pl, pr, pw⟩ := hM
 obtain ⟨qtx, qf, ql, qr, qw⟩ := hN
 have hVa : PureOK Tryz.prog Zat 53 [.v (.l (.l .s)) a] (fun V => V = .v (.l (.l qct)) (Ze3 pss)) := by rw [ptx]; exact Zhh pss (by omega) (fun ps hp => by rw [pr ps hp]; omega) pf
 have hVb : PureOK Tryz.prog Zat 53 [.v (.l (.l .s)) b] (fun V => V = .v (.l (.l qct)) (Ze3 qss)) := by rw [qtx]; exact Zhh qss (by omega) (fun ps hp => by rw [qr ps hp]; omega) qf
 have hTr := ZgM qss qr (by omega) (by omega)
 have hfull := ZsO pss qss
 have hcf := ZqS qf qr
 have hcr := fun (r : List Rat) (hr : r ∈ trD 0 (ZbM qss) qss) => ZrS hr
 have hcl := Zgh (0 : Rat) (ZbM qss) qss
 have hTx := ZrX (Zc4 pss qss) (by rw [Zc4, List.length_map]; omega) (fun ps hp => by
  obtain ⟨_, _, rfl⟩ := List.mem_map.1 hp
  rw [List.length_map, Zgh]; omega)
 rw [← hfull] at hTx
 obtain ⟨cols, hcols⟩ : ∃ x, trD 0 (ZbM qss) qss = x := ⟨_, rfl⟩
 rw [hcols] at hTr hfull hcf hcr hcl hTx
 have pll := ZfL pss
 have hpx := fun i (h : i < pss.length) => Zkk h
 have cll := ZfL cols
 have hcx := fun i (h : i < cols.length) => Zkk h
 obtain ⟨L, hL⟩ : ∃ l, Ze3 pss = l := ⟨_, rfl⟩
 obtain ⟨C, hC⟩ : ∃ l, Ze3 cols = l := ⟨_, rfl⟩
 rw [hL] at hVa pll hpx
 rw [hC] at hTr cll hcx
 refine hVa.mono ?_
 rintro _ rfl
 refine hVb.mono ?_
 rintro _ rfl
 refine hTr.mono ?_
 rintro _ rfl
 refine And.intro (show 0 ≤ (L.length : Int) ∧ (L.length : Int) ≤ (L.length : Int) ∧ (24 : Int) * (L.length : Int) ≤ 281474976710656 ∧ (L.length : Int) < 9223372036854775808 by omega) ?_
 refine Zav Zaj rfl (fun (t : Nat × List (List qct.D)) => [(7, .v (.l (.l qct)) L), (8, .v (.l (.l qct)) C), (9, .ref 0 0 L.length none), (35, .v (.i .i64) (L.length : Int)), (36, .v (.i .i64) (t.1 : Int))]) (fun t => .many (.l qct) (Zbj 1 t.2) true :: ([] ++ (ZbJ qct t.2 ++ [])))
  (fun t => t.1 ≤ pss.length ∧ t.2 = mpP pss cols t.1 0) (fun t => pss.length - t.1) ?_ (0, List.replicate L.length []) ⟨Nat.zero_le _, by rw [pll]; exact ZuM pss cols⟩ ?_
 ·rintro ⟨i, xs⟩ ⟨hi, hxs⟩
  simp only at hi hxs
  refine And.intro (fun h => ?_) (fun h => ?_)
  ·have hlt : i < pss.length := by have h' : (i : Int) < (L.length : Int) := of_decide_eq_true h; omega
   have gx : L[(i : Int).toNat]? = some (pss[i].map Zbs) := by rw [Int.toNat_natCast]; exact hpx i hlt
   have w2 : IntKind.i64.wrap ((i : Int) + 1) = ((i + 1 : Nat) : Int) := Zam (by omega) (by omega)
   have hpr := pr pss[i] (List.getElem_mem hlt)
   have hpf := pf pss[i] (List.getElem_mem hlt)
   refine Zav Zaj rfl (fun (t : Nat × List (List qct.D)) => [(7, .v (.l (.l qct)) L), (8, .v (.l (.l qct)) C), (9, .ref 0 0 L.length none), (35, .v (.i .i64) (L.length : Int)), (36, .v (.i .i64) (i : Int)), (10, .v (.i .i64) (i : Int)), (40, .v (.i .i64) (C.length : Int)), (41, .v (.i .i64) (t.1 : Int))]) (fun t => .many (.l qct) (Zbj 1 t.2) true :: ([] ++ (ZbJ qct t.2 ++ [])))
    (fun t => t.1 ≤ cols.length ∧ t.2 = mpP pss cols i t.1) (fun t => cols.length - t.1) ?_ (0, xs) ⟨Nat.zero_le _, hxs⟩ ?_
   ·rintro ⟨k, ys⟩ ⟨hk, hys⟩
    simp only at hk hys
    refine And.intro (fun h => ?_) (fun h => ?_)
    ·have hkl : k < cols.length := by have h' : (k : Int) < (C.length : Int) := of_decide_eq_true h; omega
     have gk : C[(k : Int).toNat]? = some (cols[k].map Zbs) := by rw [Int.toNat_natCast]; exact hcx k hkl
     have hyl : ys.length = pss.length := by rw [hys, Zcj]
     have hky : i < ys.length := by omega
     have hel : (Zbj 1 ys)[0 + (i : Int).toNat]? = some (.ref (i + 1) 0 ys[i].length none) := by rw [Int.toNat_natCast, Nat.zero_add]; exact ZdJ hky
     have ci : (0 : Int) ≤ (i : Int) ∧ (i : Int) < (L.length : Nat) := by omega
     have hyk : ys[i].length = k := by
      subst hys
      rw [Zno]
      exact Ztk hk
     have hz : (ys[i].length + 1) * 64 ≤ 140737488355328 := by omega
     have hc : 0 + (i : Int).toNat < (Zbj 1 ys).length := by rw [Za9]; omega
     have w3 : IntKind.i64.wrap ((k : Int) + 1) = ((k + 1 : Nat) : Int) := Zam (by omega) (by omega)
     have hst := Zs5 (pss := pss) (cols := cols) (i := i) (k := k) (by rw [← hys]; exact hky) hkl hlt
     simp only [← hys] at hst
     have hcr1 := hcr cols[k] (List.getElem_mem hkl)
     have hD := Zuc pss[i] cols[k] (by omega) (by omega) hpf (hcf cols[k] (List.getElem_mem hkl))
     obtain ⟨x, hx⟩ : ∃ x, ZbU pss[i] cols[k] = x := ⟨_, rfl⟩
     rw [hx] at hD hst
     repeat (first | refine Zak ?_ | refine Zaf ?_ | refine Zac ?_)
     first | refine Zab (Zaa (id := 13) rfl ?_) | refine Zab (Zab (Zaa (id := 13) rfl ?_)) | refine Zaa (id := 13) rfl ?_ | refine Zab (Zad rfl (Zab (Zaa (id := 13) rfl ?_))) | refine Zad rfl (Zab (Zaa (id := 13) rfl ?_))
     refine Zah rfl (fun _ => rfl) rfl rfl ?_
     refine Zah rfl (fun _ => rfl) rfl rfl ?_
     refine Zal ?_
     repeat (first | refine Zaf ?_ | refine Zac ?_)
     repeat (first | refine Zak ?_ | refine Zaf ?_ | refine Zac ?_)
     first | refine Zab (ZaT (id := 14) rfl rfl ?_) | refine Zab (Zab (ZaT (id := 14) rfl rfl ?_)) | refine ZaT (id := 14) rfl rfl ?_ | refine Zab (Zad rfl (Zab (ZaT (id := 14) rfl rfl ?_))) | refine Zad rfl (Zab (ZaT (id := 14) rfl rfl ?_)) | refine Zab (Zad rfl (ZaT (id := 14) rfl rfl ?_)) | refine Zad rfl (ZaT (id := 14) rfl rfl ?_)
     refine ZgE rfl rfl rfl rfl rfl ?_
     refine ZgE rfl rfl rfl rfl rfl ?_
     refine ZgE rfl rfl rfl rfl rfl ?_
     refine ZgE rfl rfl rfl rfl rfl ?_
     refine Zua rfl rfl rfl (fun _ => rfl) ci rfl rfl ?_
     refine Zuw rfl rfl rfl (fun _ => rfl) hel rfl rfl ?_
     refine Zfy rfl rfl (opv (fun _ => rfl) rfl rfl ?_)
     refine Zfy rfl rfl (opv (fun _ => rfl) rfl rfl ?_)
     refine Zfy rfl rfl (opy (fun _ => rfl) (Int.natCast_nonneg i) gx rfl rfl ?_)
     refine Zfy rfl rfl (opv (fun _ => rfl) rfl rfl ?_)
     refine Zfy rfl rfl (opv (fun _ => rfl) rfl rfl ?_)
     refine Zfy rfl rfl (opv (fun _ => rfl) rfl rfl ?_)
     refine Zfy rfl rfl (opy (fun _ => rfl) (Int.natCast_nonneg k) gk rfl rfl ?_)
     refine Zfy rfl rfl (opv (fun _ => rfl) rfl rfl ?_)
     refine Zfy rfl rfl ((hD).mono ?_)
     rintro _ rfl
     refine Zjt rfl rfl ?_
     refine Zfy rfl rfl (opm (fun _ => rfl) rfl rfl ?_)
     refine Zry ZmA ?_
     refine ZwS rfl rfl rfl rfl (Zrs (x := Zbs x) rfl rfl rfl rfl rfl rfl rfl rfl rfl rfl rfl hky rfl Zgs rfl hz ?_)
     refine Zqe rfl ?_
     refine Zjt rfl rfl ?_
     refine Zfy rfl rfl (opc (fun _ => rfl) ci rfl rfl ?_)
     refine ZwF rfl rfl (And.intro hc ?_)
     refine Zjx rfl ?_
     refine ZpV ?_
     repeat (first | refine Zaf ?_ | refine Zac ?_)
     refine ⟨(k + 1, ys.set i (ys[i] ++ [Zbs x])), ⟨hkl, hst⟩, by show cols.length - (k + 1) < cols.length - k; omega, ?_⟩
     exact Zox (e := 1) (show 0 + (i : Int).toNat = i by rw [Int.toNat_natCast, Nat.zero_add]) (show ys[i].length + 1 = (ys[i] ++ [Zbs x]).length by rw [List.length_append]; rfl) rfl hky rfl rfl (Nat.zero_le _) (fun _ h => absurd h List.not_mem_nil)
      ⟨rfl, rfl, rfl, rfl, rfl, rfl, rfl, rfl, rfl, rfl, rfl, rfl, rfl, rfl, congrArg (fun x => some (SV.v (.i .i64) x)) w3, rfl, trivial⟩
    ·have hk2 : k = cols.length := by have h' : ¬ (k : Int) < (C.length : Int) := of_decide_eq_false h; omega
     refine ⟨(i + 1, ys), ⟨hlt, by show ys = mpP pss cols (i + 1) 0; rw [hys, hk2, Ztd]⟩, by show pss.length - (i + 1) < pss.length - i; omega, ?_⟩
     exact Zbw ⟨rfl, rfl, rfl, rfl, congrArg (fun x => some (SV.v (.i .i64) x)) w2, trivial⟩
   ·exact Zbw ⟨rfl, rfl, rfl, rfl, rfl, rfl, rfl, rfl, trivial⟩
  ·have hi2 : i = pss.length := by have h' : ¬ (i : Int) < (L.length : Int) := of_decide_eq_false h; omega
   have hxl : L.length = xs.length := by rw [hxs, Zcj]; exact pll
   have hxf : xs = mpP pss cols pss.length 0 := by rw [hxs, hi2]
   rw [← hxf] at hTx
   have hfin : ∀ V, V = Zut (Zc4 pss qss) → Zwx a b V := fun V hV => .inr ⟨hE2, z1, z2, pss, qss, hM2, hN2, hwl, hV⟩
   unfold Zut at hTx hfin
   cases hfm : Zr3 (Zc4 pss qss) with
   | true =>
    rw [hfm] at hTx hfin
    repeat (first | refine Zak ?_ | refine Zaf ?_ | refine Zac ?_)
    first | refine Zab (Zaa (id := 17) rfl ?_) | refine Zab (Zab (Zaa (id := 17) rfl ?_)) | refine Zaa (id := 17) rfl ?_ | refine Zab (Zad rfl (Zab (Zaa (id := 17) rfl ?_))) | refine Zad rfl (Zab (Zaa (id := 17) rfl ?_))
    refine Zah rfl (fun _ => rfl) rfl rfl ?_
    refine ZbW rfl (Zi4 rfl rfl rfl rfl rfl rfl (Znc (m := 37) rfl hxl (hTx.mono ?_)))
    rintro _ rfl
    refine ZaG rfl rfl ?_
    refine Zah rfl (fun _ => rfl) rfl rfl ?_
    refine Zah rfl (fun _ => rfl) rfl rfl ?_
    refine Zah rfl (fun _ => rfl) rfl rfl ?_
    refine Zah rfl (fun _ => rfl) rfl rfl ?_
    refine Zal ?_
    repeat (first | refine Zaf ?_ | refine Zac ?_)
    exact hfin _ rfl
   | false =>
    rw [hfm] at hTx hfin
    repeat (first | refine Zak ?_ | refine Zaf ?_ | refine Zac ?_)
    first | refine Zab (Zaa (id := 17) rfl ?_) | refine Zab (Zab (Zaa (id := 17) rfl ?_)) | refine Zaa (id := 17) rfl ?_ | refine Zab (Zad rfl (Zab (Zaa (id := 17) rfl ?_))) | refine Zad rfl (Zab (Zaa (id := 17) rfl ?_))
    refine Zah rfl (fun _ => rfl) rfl rfl ?_
    refine ZbW rfl (Zi4 rfl rfl rfl rfl rfl rfl (Znc (m := 37) rfl hxl (hTx.mono ?_)))
    rintro _ rfl
    refine ZaG rfl rfl ?_
    refine Zah rfl (fun _ => rfl) rfl rfl ?_
    refine Zah rfl (fun _ => rfl) rfl rfl ?_
    refine Zah rfl (fun _ => rfl) rfl rfl ?_
    refine Zah rfl (fun _ => rfl) rfl rfl ?_
    refine Zal ?_
    repeat (first | refine Zaf ?_ | refine Zac ?_)
    exact hfin _ rfl
 ·have hT : ∀ id ∈ ZdL (.ref 0 0 L.length none), id < 1 := fun id h => by rcases List.mem_singleton.1 h with rfl; decide
  have hN : ∀ {x : SV}, ZdL x = [] → ∀ id ∈ ZdL x, id < 1 := fun h id hid => by rw [h] at hid; cases hid
  refine Ent.trans (hp1 := [.many (.l qct) (List.replicate L.length .nils) true]) (tm1 := [(7, .v (.l (.l qct)) L), (8, .v (.l (.l qct)) C), (9, .ref 0 0 L.length none), (35, .v (.i .i64) (L.length : Int)), (36, .v (.i .i64) ((0 : Nat) : Int))]) (ZtW ⟨rfl, hN rfl, rfl, hN rfl, rfl, hT, rfl, hN rfl, rfl, hN rfl, trivial⟩ ?_) (Zn7 rfl (Nat.zero_le _) ⟨rfl, rfl, rfl, rfl, rfl, rfl, rfl, rfl, rfl, rfl, trivial⟩)
  intro m hm
  rcases List.mem_singleton.1 hm with rfl
  exact ZoU
end Go.Proofs.YtnfgnkbgajhhbaaGreatDoor
