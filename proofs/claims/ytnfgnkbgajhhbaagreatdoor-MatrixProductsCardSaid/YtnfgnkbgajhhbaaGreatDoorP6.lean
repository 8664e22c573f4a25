/-
 stringslite.Index at a text of one byte: a primitive.
-/
import Derived.Test.YtnfgnkbgajhhbaaGreatDoorP5
import Derived.Test.YtnfgnkbgajhhbaaGreatDoorMN
set_option linter.constructorNameAsVariable false
set_option linter.unusedSimpArgs false
set_option linter.unusedVariables false
namespace Go.Proofs.YtnfgnkbgajhhbaaGreatDoor
open Go.Shelf Go.RowKit Dv Go.Am
theorem ZhO : ∀ qs v, indexG qs = some v → ∀ (S : Nat → Prop) w vals, (∀ b, S b → b < w.heap.size) → Laid.ok S w → LRel w S qs vals →
 Calls Tryz.prog 146 vals.toArray w fun e w' => ∃ u, e = .returned u ∧ Below w.heap.size w w' ∧ IRel w' (fun b => S b ∨ (w.heap.size ≤ b ∧ b < w'.heap.size)) v u := by
 intro qs v hv S w vals hS hL hr
 unfold indexG at hv
 split at hv
 ·rename_i s t
  split at hv
  ·rename_i c hc
   cases hv
   simp only [LRel, IRel] at hr
   obtain ⟨_, _, rfl, rfl, _, _, rfl, rfl, rfl⟩ := hr
   have ht : t = ⟨#[c]⟩ := by
    cases t with
    | mk d =>
     have h1 : d.toList = [c] := hc
     have h2 : d = #[c] := by rw [← Array.toList_inj, h1]
     rw [h2]
   subst ht
   refine (Any.stringslite_Index_one Tryz.lays219 s c w).mono ?_
   rintro e w' ⟨rfl, rfl⟩
   refine ⟨_, rfl, Below.refl _ _, ?_⟩
   rw [Zxi]
   simp only [IRel]
  ·cases hv
 ·cases hv
end Go.Proofs.YtnfgnkbgajhhbaaGreatDoor
/-
 matrixFact: run by the kernel.
-/
namespace Go.Proofs.YtnfgnkbgajhhbaaGreatDoor
open Go.Am Go.Tx
set_option maxRecDepth 1000000 in
theorem ZiC : Zkj ((Zec Tryz.prog Zqc 400).rn 9 [] []) = true := by decide +kernel
end Go.Proofs.YtnfgnkbgajhhbaaGreatDoor
/-
 The primitives of the seat are sound; its text passes the static checks.
-/
namespace Go.Proofs.YtnfgnkbgajhhbaaGreatDoor
open Go.RowKit Go.Shelf Go.Lib Dv Go.Tx Go.Am
set_option maxRecDepth 100000
theorem ZvL : Zbf Tryz.prog Zqc := by
 intro f g hg
 have hg : Zof f = some g := hg
 unfold Zof at hg
 split at hg
 ·cases hg; exact Zi3
 ·cases hg; exact Zio
 ·cases hg; exact ZhO
 ·cases hg
theorem Zvg : Static Tryz.prog Zqc := Zd3 ZtC fun f hf => by
 unfold Zof at hf
 split at hf
 ·exact ⟨_, Tryz.func100, by kernel_rfl, by kernel_rfl⟩
 ·exact ⟨_, Tryz.func136, by kernel_rfl, by kernel_rfl⟩
 ·exact ⟨_, Tryz.func146, by kernel_rfl, by kernel_rfl⟩
 ·cases hf
theorem Zo5 : ∀ qs v, Zvj qs = some v → ∀ (S : Nat → Prop) w vals, (∀ b, S b → b < w.heap.size) → Laid.ok S w → LRel w S qs vals →
 Calls Tryz.prog 9 vals.toArray w fun e w' => ∃ u, e = .returned u ∧ Below w.heap.size w w' ∧ IRel w' (fun b => S b ∨ (w.heap.size ≤ b ∧ b < w'.heap.size)) v u := by
 intro qs v hv
 refine ZmF (l := [9]) Zvg ZvL (fun f hf => ?_) 9 Zus rfl qs v ?_
 ·rw [List.mem_singleton.1 hf]
  exact ⟨400, ZiC⟩
 ·cases qs <;> exact hv
theorem Zwl : Zbf Tryz.prog Zat := by
 intro f g hg
 have hg : prims f = some g := hg
 unfold prims at hg
 split at hg
 ·cases hg; exact Zi3
 ·cases hg; exact Zio
 ·cases hg; exact ZhO
 ·cases hg; exact Zo5
 ·cases hg
theorem Zvr : Static Tryz.prog Zat := Zd3 ZqT fun f hf => by
 unfold prims at hf
 split at hf
 ·exact ⟨_, Tryz.func100, by kernel_rfl, by kernel_rfl⟩
 ·exact ⟨_, Tryz.func136, by kernel_rfl, by kernel_rfl⟩
 ·exact ⟨_, Tryz.func146, by kernel_rfl, by kernel_rfl⟩
 ·exact ⟨_, Tryz.func9, by kernel_rfl, by kernel_rfl⟩
 ·cases hf
theorem Zk5 : PureOK Tryz.prog Zat 9 [] (fun V => V = .v .b true) := by
 refine ⟨fun qs hr => ?_⟩
 simp only [RL] at hr
 subst hr
 refine ⟨.bool true, .v .b true, ?_, by simp only [RV, RR], rfl⟩
 unfold Zbk
 rw [show Zat.prim 9 = some Zvj from rfl]
 rfl
end Go.Proofs.YtnfgnkbgajhhbaaGreatDoor
/-
 The reference's product of two vectors.
-/
namespace Go.Proofs.YtnfgnkbgajhhbaaGreatDoor
open Go.Am Go.Tx Dv Go.Lib
set_option maxRecDepth 100000
theorem ZmG : ∀ {ps qs : List Rat}, (∀ p ∈ ps, dz p 12) → (∀ q ∈ qs, dz q 12) → dz (ZbU ps qs) (25 * ps.length + 1)
 | [], _, _, _ => by rw [Zjp]; exact Zge (by simp) Zqb
 | p :: ps, [], _, _ => Zge (by simp) (show dz (ZbU (p :: ps) []) 1 from Zqb)
 | p :: ps, q :: qs, h1, h2 => by
  rw [ZbU]
  have a1 := h1 p List.mem_cons_self
  have a2 := h2 q List.mem_cons_self
  have a3 := ZmG (fun x hx => h1 x (List.mem_cons_of_mem _ hx)) (fun x hx => h2 x (List.mem_cons_of_mem _ hx))
  exact Zge (by rw [List.length_cons]; omega) (Zwe (ZuE a1 a2) a3)
set_option maxHeartbeats 8000000 in
theorem Zur (ps qs : List Rat) (hlen : ps.length = qs.length) (h40 : ps.length ≤ 40) (dp : ∀ p ∈ ps, dz p 12) (dq : ∀ q ∈ qs, dz q 12) : PureOK Tryz.prog Zat 22 [.v (.l .s) (ps.map ZaK), .v (.l .s) (qs.map ZaK)] (fun V => V = .v .s (ZaK (ZbU ps qs))) := by
 refine Zai Zaj Tryz.func22 ?_
 have hll : (ps.map ZaK).length = ps.length := List.length_map _
 have hgp : ∀ i (h : i < ps.length), (ps.map ZaK)[i]? = some (ZaK ps[i]) := fun i h => by
  rw [List.getElem?_map, List.getElem?_eq_getElem h]
  rfl
 have hgq : ∀ i (h : i < qs.length), (qs.map ZaK)[i]? = some (ZaK qs[i]) := fun i h => by
  rw [List.getElem?_map, List.getElem?_eq_getElem h]
  rfl
 obtain ⟨r, hr⟩ : ∃ l, ps.map ZaK = l := ⟨_, rfl⟩
 obtain ⟨f, hf⟩ : ∃ l, qs.map ZaK = l := ⟨_, rfl⟩
 rw [hr] at hll hgp ⊢
 rw [hf] at hgq ⊢
 have w0 : IntKind.i64.wrap ((r.length : Int) - 1) = ((ps.length : Nat) : Int) - 1 := by rw [hll]; exact Zam (by omega) (by omega)
 have e0 : ZaK (ZbU (ps.drop ps.length) (qs.drop ps.length)) = [48] := by rw [List.drop_length, Zjp, Zlt]
 refine Zav Zaj rfl (fun (k : Nat) => [(0, .v (.l .s) r), (1, .v (.l .s) f), (5, .v .s (ZaK (ZbU (ps.drop k) (qs.drop k)))), (6, .v (.i .i64) ((k : Int) - 1))]) (fun _ => [])
  (fun k => k ≤ ps.length) (fun k => k) ?_ ps.length ?_ ?_
 ·intro k hk
  refine And.intro (fun h => ?_) (fun h => ?_)
  ·obtain ⟨j, rfl⟩ : ∃ j, k = j + 1 := ⟨k - 1, by have h' : (0 : Int) ≤ (k : Int) - 1 := of_decide_eq_true h; omega⟩
   have hlt : j < ps.length := hk
   have hlt2 : j < qs.length := by omega
   have ej : (((j + 1 : Nat) : Int) - 1).toNat = j := by omega
   have gp : r[(((j + 1 : Nat) : Int) - 1).toNat]? = some (ZaK ps[j]) := by rw [ej]; exact hgp j hlt
   have gq : f[(((j + 1 : Nat) : Int) - 1).toNat]? = some (ZaK qs[j]) := by rw [ej]; exact hgq j hlt2
   have hst := ZkE hlt hlt2
   have d1 := dp ps[j] (List.getElem_mem hlt)
   have d2 := dq qs[j] (List.getElem_mem hlt2)
   have dS : dz (ZbU (ps.drop (j + 1)) (qs.drop (j + 1))) 2000 := Zge (by rw [List.length_drop]; omega) (ZmG (fun x hx => dp x (List.mem_of_mem_drop hx)) (fun x hx => dq x (List.mem_of_mem_drop hx)))
   obtain ⟨p, hp0⟩ : ∃ x, ps[j] = x := ⟨_, rfl⟩
   obtain ⟨q, hq0⟩ : ∃ x, qs[j] = x := ⟨_, rfl⟩
   rw [hp0] at gp d1 hst
   rw [hq0] at gq d2 hst
   have hn : (0 : Int) ≤ ((j + 1 : Nat) : Int) - 1 := by omega
   have wi : IntKind.i64.wrap (((j + 1 : Nat) : Int) - 1 - 1) = (j : Int) - 1 := by
    have e : ((j + 1 : Nat) : Int) - 1 - 1 = (j : Int) - 1 := by omega
    rw [e]
    exact Zam (by omega) (by omega)
   refine ⟨ZaK p, hn, gp, ?_⟩
   refine ⟨ZaK q, hn, gq, ?_⟩
   refine (ZtM p q (by decide : 12 ≤ 40000) d1 d2).mono ?_
   rintro _ rfl
   refine (ZtE (p * q) (ZbU (ps.drop (j + 1)) (qs.drop (j + 1))) (k := 2000) (by decide) (Zge (by decide) (ZuE d1 d2)) dS).mono ?_
   rintro _ rfl
   refine ⟨j, Nat.le_of_lt hlt, Nat.lt_succ_self j, ?_⟩
   refine Zan rfl rfl ?_ ?_
   ·exact ⟨rfl, rfl, congrArg ZaK hst, wi.symm, trivial⟩
   ·exact trivial
  ·have hk0 : k = 0 := by have h' : ¬ (0 : Int) ≤ (k : Int) - 1 := of_decide_eq_false h; omega
   subst hk0
   rfl
 ·exact Nat.le_refl _
 ·refine Zan rfl rfl ?_ ?_
  ·exact ⟨rfl, rfl, e0, w0.symm, trivial⟩
  ·exact trivial
end Go.Proofs.YtnfgnkbgajhhbaaGreatDoor
/-
 The reference's columns; loops of the law MatrixProducts.
-/
namespace Go.Proofs.YtnfgnkbgajhhbaaGreatDoor
open Go.Am Go.Tx Dv Go.Lib
set_option maxRecDepth 100000
theorem Zg7 (m : List (List (List UInt8))) : PureOK Tryz.prog Zat 18 [.v (.l (.l .s)) m] (fun V => V = .v (.i .i64) ((wid m : Nat) : Int)) := by
 refine Zai Zaj Tryz.func18 ?_
 refine And.intro (fun h => ?_) (fun h => ?_)
 ·have h' : decide ((0 : Int) < (m.length : Int)) = true := h
  cases m with
  | nil => cases h'
  | cons r m => exact ⟨r, Int.le_refl 0, rfl, rfl⟩
 ·have h' : decide ((0 : Int) < (m.length : Int)) = false := h
  have h0 : m.length = 0 := by have := of_decide_eq_false h'; omega
  rw [List.length_eq_zero_iff.1 h0]
  rfl
set_option maxHeartbeats 8000000 in
theorem ZoE (pss : List (List Rat)) (k : Nat) (hk : k < ZbM pss) (hr : ∀ ps ∈ pss, ps.length = ZbM pss) (hl : pss.length ≤ 1000) : PureOK Tryz.prog Zat 21 [.v (.l (.l .s)) (Za1 pss), .v (.i .i64) (k : Int)] (fun V => V = .v (.l .s) ((Zgq 0 pss k).map ZaK)) := by
 refine Zai Zaj Tryz.func21 ?_
 have hll : (Za1 pss).length = pss.length := List.length_map _
 have hg := fun i (h : i < pss.length) => ZhZ h
 have hcd : (Zgq 0 pss k).map ZaK = pss.map fun ps => ZaK (ps.getD k 0) := by rw [Zgq, List.map_map]; rfl
 rw [hcd]
 obtain ⟨L, hL⟩ : ∃ l, Za1 pss = l := ⟨_, rfl⟩
 rw [hL] at hll hg ⊢
 refine Zav Zaj rfl (fun (i : Nat) => [(1, .v (.i .i64) (k : Int)), (5, .ref 0 0 i none), (8, .v (.l (.l .s)) L), (9, .v (.i .i64) (L.length : Int)), (10, .v (.i .i64) (i : Int))]) (fun i => [.row .s ((pss.take i).map fun ps => ZaK (ps.getD k 0)) true])
  (fun i => i ≤ pss.length) (fun i => pss.length - i) ?_ 0 (Nat.zero_le _) ?_
 ·intro i hi
  refine And.intro (fun h => ?_) (fun h => ?_)
  ·have hlt : i < pss.length := by have h' : (i : Int) < (L.length : Int) := of_decide_eq_true h; omega
   have gx : L[(i : Int).toNat]? = some (pss[i].map ZaK) := by rw [Int.toNat_natCast]; exact hg i hlt
   have hsn := Ze1 (g := fun ps : List Rat => ZaK (ps.getD k 0)) hlt
   have hrl := hr pss[i] (List.getElem_mem hlt)
   have wi : IntKind.i64.wrap ((i : Int) + 1) = ((i + 1 : Nat) : Int) := Zam (by omega) (by omega)
   obtain ⟨ps, hq⟩ : ∃ x, pss[i] = x := ⟨_, rfl⟩
   rw [hq] at gx hsn hrl
   have gk : (ps.map ZaK)[(k : Int).toNat]? = some (ZaK (ps.getD k 0)) := by
    rw [Int.toNat_natCast, List.getElem?_map, List.getD_eq_getElem?_getD, List.getElem?_eq_getElem (by omega)]
    rfl
   have hlen : ((pss.take i).map fun ps => ZaK (ps.getD k 0)).length = i := by rw [List.length_map, List.length_take]; omega
   refine ⟨ps.map ZaK, Int.natCast_nonneg i, gx, ?_⟩
   refine ⟨ZaK (ps.getD k 0), Int.natCast_nonneg k, gk, ?_⟩
   refine And.intro (show 0 + 1 ≤ 1 by decide) ?_
   refine And.intro (Nat.le_of_eq ((Nat.zero_add i).trans hlen.symm)) ?_
   refine And.intro (show (i + (0 + 1)) * 16 ≤ 140737488355328 by omega) ?_
   refine ⟨i + 1, hlt, by show pss.length - (i + 1) < pss.length - i; omega, ?_⟩
   refine Zan rfl rfl ?_ ?_
   ·exact ⟨rfl, ⟨rfl, rfl, rfl⟩, rfl, rfl, wi.symm, trivial⟩
   ·refine ⟨⟨?_, fun _ => rfl⟩, trivial⟩
    show ((pss.take (i + 1)).map fun ps => ZaK (ps.getD k 0)) = sub ((pss.take i).map fun ps => ZaK (ps.getD k 0)) 0 i ++ [ZaK (ps.getD k 0)]
    rw [ZfA hlen]
    exact hsn.symm
  ·have hi2 : i = pss.length := by have h' : ¬ (i : Int) < (L.length : Int) := of_decide_eq_false h; omega
   subst hi2
   have hfl : ((pss.take pss.length).map fun ps => ZaK (ps.getD k 0)).length = pss.length := by rw [List.length_map, List.length_take]; omega
   refine ⟨Nat.le_of_eq ((Nat.zero_add _).trans hfl.symm), ?_⟩
   show SV.v (.l .s) (sub ((pss.take pss.length).map fun ps => ZaK (ps.getD k 0)) 0 pss.length) = _
   rw [ZfA hfl, List.take_length]
 ·refine Zan rfl rfl ?_ ?_
  ·exact ⟨rfl, ⟨rfl, rfl, rfl⟩, rfl, rfl, rfl, trivial⟩
  ·exact ⟨rfl, trivial⟩
theorem ZvK (l : List (List UInt8)) (hl : l.length ≤ 1000) : PureOK Tryz.prog Zat 20 [.v (.l .s) l, .v (.l .s) l] (fun V => V = .v .b true) := by
 refine Zai Zaj Tryz.func20 ?_
 refine And.intro (fun h => ?_) (fun h => ?_)
 ·have h' : (!decide ((l.length : Int) = (l.length : Int))) = true := h
  rw [decide_eq_true rfl] at h'
  cases h'
 refine Zav Zaj rfl (fun (i : Nat) => [(0, .v (.l .s) l), (1, .v (.l .s) l), (11, .v (.l .s) l), (12, .v (.i .i64) (l.length : Int)), (13, .v (.i .i64) (i : Int))]) (fun _ => [])
  (fun i => i ≤ l.length) (fun i => l.length - i) ?_ 0 (Nat.zero_le _) ?_
 ·intro i hi
  refine And.intro (fun h => ?_) (fun h => ?_)
  ·have hlt : i < l.length := by have h' : (i : Int) < (l.length : Int) := of_decide_eq_true h; omega
   have gx : l[(i : Int).toNat]? = some l[i] := by rw [Int.toNat_natCast, List.getElem?_eq_getElem hlt]
   have wi : IntKind.i64.wrap ((i : Int) + 1) = ((i + 1 : Nat) : Int) := Zam (by omega) (by omega)
   obtain ⟨s, hs⟩ : ∃ x, l[i] = x := ⟨_, rfl⟩
   rw [hs] at gx
   refine ⟨s, Int.natCast_nonneg i, gx, ?_⟩
   refine ⟨s, Int.natCast_nonneg i, gx, ?_⟩
   refine And.intro (fun h2 => ?_) (fun h2 => ?_)
   ·have h2' : (!(s == s)) = true := h2
    rw [ZjD] at h2'
    cases h2'
   ·refine ⟨i + 1, hlt, by show l.length - (i + 1) < l.length - i; omega, ?_⟩
    exact Zbw ⟨rfl, rfl, rfl, rfl, congrArg (fun x => some (SV.v (.i .i64) x)) wi, trivial⟩
  ·rfl
 ·exact Zbw ⟨rfl, rfl, rfl, rfl, rfl, trivial⟩
end Go.Proofs.YtnfgnkbgajhhbaaGreatDoor
