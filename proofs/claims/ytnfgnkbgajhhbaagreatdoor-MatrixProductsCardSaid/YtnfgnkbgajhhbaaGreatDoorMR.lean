/-
 Loops of the law MatrixProducts.
-/
import Derived.Test.YtnfgnkbgajhhbaaGreatDoorP6
set_option linter.constructorNameAsVariable false
set_option linter.unusedSimpArgs false
set_option linter.unusedVariables false
namespace Go.Proofs.YtnfgnkbgajhhbaaGreatDoor
open Go.Am Go.Tx Dv Go.Lib
set_option maxRecDepth 100000
def Zug : Cx := ⟨4, 0, 214⟩
theorem Zw9 {pss : List (List Rat)} {w k : Nat} (hk : k < w) : (Za1 (trD 0 w pss))[k]? = some ((Zgq 0 pss k).map ZaK) := by
 rw [Za1, trD, List.getElem?_map, List.getElem?_map, List.getElem?_range hk]
 rfl
theorem Zos (pss : List (List Rat)) (k : Nat) : (Zgq 0 pss k).length = pss.length := List.length_map _
theorem ZnA {pss : List (List Rat)} {w k : Nat} (hk : k < w) (hr : ∀ ps ∈ pss, ps.length = w) {Q : Rat → Prop} (hq : ∀ ps ∈ pss, ∀ p ∈ ps, Q p) : ∀ p ∈ Zgq 0 pss k, Q p := by
 intro p hp
 obtain ⟨r, hr1, rfl⟩ := List.mem_map.1 hp
 have := hr r hr1
 rw [List.getD_eq_getElem?_getD, List.getElem?_eq_getElem (by omega)]
 exact hq r hr1 _ (List.getElem_mem _)
def c22 (pss : List (List Rat)) (B V M X : SV) (f W E : Int) (k : Nat) : TM := [(0, .v (.l (.l .s)) (Za1 pss)), (1, B), (2, V), (7, M), (9, X), (10, .v (.i .i64) f), (13, .v (.i .i64) W), (14, .v (.i .i64) E), (132, .v (.l (.l .s)) (Za1 (trD 0 (ZbM pss) pss))), (133, .v (.i .i64) (((Za1 (trD 0 (ZbM pss) pss)).length : Nat) : Int)), (134, .v (.i .i64) (k : Int))]
set_option maxHeartbeats 8000000 in
theorem ZwW (pss : List (List Rat)) (B V M X : SV) (f W E : Int) (hr : ∀ ps ∈ pss, ps.length = ZbM pss) (hl : pss.length ≤ 40) (hw : ZbM pss ≤ 40) :
 LoopOK Tryz.prog Zat 0 Zug (ZcO Tryz.f4 23) (c22 pss B V M X f W E 0) []
 (fun e tm hp => e = .exit 0 ∧ ∃ Z : SV, tm = (135, Z) :: c22 pss B V M X f W E (ZbM pss) ∧ hp = []) := by
 have hll : (Za1 (trD 0 (ZbM pss) pss)).length = ZbM pss := by rw [Za1, List.length_map, Zgh]
 refine Zav Zaj rfl (c22 pss B V M X f W E) (fun _ => []) (fun k => k ≤ ZbM pss) (fun k => ZbM pss - k) ?_ 0 (Nat.zero_le _) Zbt
 intro k hk
 refine And.intro (fun h => ?_) (fun h => ?_)
 ·have hlt : k < ZbM pss := by have h' : (k : Int) < (((Za1 (trD 0 (ZbM pss) pss)).length : Nat) : Int) := of_decide_eq_true h; omega
  have gx : (Za1 (trD 0 (ZbM pss) pss))[(k : Int).toNat]? = some ((Zgq 0 pss k).map ZaK) := by rw [Int.toNat_natCast]; exact Zw9 hlt
  have wi : IntKind.i64.wrap ((k : Int) + 1) = ((k + 1 : Nat) : Int) := Zam (by omega) (by omega)
  refine ⟨_, Int.natCast_nonneg k, gx, ?_⟩
  refine (ZoE pss k hlt hr (by omega)).mono ?_
  rintro _ rfl
  refine (ZvK ((Zgq 0 pss k).map ZaK) (by rw [List.length_map, Zos]; omega)).mono ?_
  rintro _ rfl
  refine And.intro (fun h => nomatch h) (fun _ => ?_)
  refine ⟨k + 1, hlt, by show ZbM pss - (k + 1) < ZbM pss - k; omega, ?_⟩
  exact Zbw ⟨rfl, rfl, rfl, rfl, rfl, rfl, rfl, rfl, rfl, rfl, congrArg (fun x => some (SV.v (.i .i64) x)) wi, trivial⟩
 ·have hk2 : k = ZbM pss := by have h' : ¬ (k : Int) < (((Za1 (trD 0 (ZbM pss) pss)).length : Nat) : Int) := of_decide_eq_false h; omega
  subst hk2
  exact ⟨rfl, _, rfl, rfl⟩
def c32 (pss : List (List Rat)) (qs : List Rat) (B M : SV) (W : Int) (i : Nat) : TM := [(0, .v (.l (.l .s)) (Za1 pss)), (1, B), (2, .v (.l .s) (qs.map ZaK)), (7, M), (9, .v (.l .s) ((pss.map fun ps => ZbU ps qs).map ZaK)), (13, .v (.i .i64) W), (157, .v (.l (.l .s)) (Za1 pss)), (158, .v (.i .i64) (((Za1 pss).length : Nat) : Int)), (159, .v (.i .i64) (i : Int))]
set_option maxHeartbeats 8000000 in
theorem Zwc (pss : List (List Rat)) (qs : List Rat) (B M : SV) (W : Int) (hr : ∀ ps ∈ pss, ps.length = qs.length) (hl : pss.length ≤ 40) (hq : qs.length ≤ 40) (d1 : ∀ ps ∈ pss, ∀ p ∈ ps, dz p 12) (d2 : ∀ q ∈ qs, dz q 12) :
 LoopOK Tryz.prog Zat 0 Zug (ZcO Tryz.f4 32) (c32 pss qs B M W 0) []
 (fun e tm hp => e = .exit 2 ∧ ∃ Z : SV, tm = (160, Z) :: c32 pss qs B M W pss.length ∧ hp = []) := by
 have hll : (Za1 pss).length = pss.length := List.length_map _
 refine Zav Zaj rfl (c32 pss qs B M W) (fun _ => []) (fun k => k ≤ pss.length) (fun k => pss.length - k) ?_ 0 (Nat.zero_le _) Zbt
 intro i hi
 refine And.intro (fun h => ?_) (fun h => ?_)
 ·have hlt : i < pss.length := by have h' : (i : Int) < (((Za1 pss).length : Nat) : Int) := of_decide_eq_true h; omega
  have gx : (Za1 pss)[(i : Int).toNat]? = some (pss[i].map ZaK) := by rw [Int.toNat_natCast]; exact ZhZ hlt
  have gy : ((pss.map fun ps => ZbU ps qs).map ZaK)[(i : Int).toNat]? = some (ZaK (ZbU pss[i] qs)) := by
   rw [Int.toNat_natCast, List.getElem?_map, List.getElem?_map, List.getElem?_eq_getElem hlt]
   rfl
  have wi : IntKind.i64.wrap ((i : Int) + 1) = ((i + 1 : Nat) : Int) := Zam (by omega) (by omega)
  have hD := Zur pss[i] qs (hr _ (List.getElem_mem hlt)) (by rw [hr _ (List.getElem_mem hlt)]; exact hq) (d1 _ (List.getElem_mem hlt)) d2
  refine ⟨_, Int.natCast_nonneg i, gx, ?_⟩
  refine ⟨_, Int.natCast_nonneg i, gy, ?_⟩
  refine hD.mono ?_
  rintro _ rfl
  refine And.intro (fun h2 => ?_) (fun h2 => ?_)
  ·have h2' : (!(ZaK (ZbU pss[i] qs) == ZaK (ZbU pss[i] qs))) = true := h2
   rw [ZjD] at h2'
   cases h2'
  ·refine ⟨i + 1, hlt, by show pss.length - (i + 1) < pss.length - i; omega, ?_⟩
   exact Zbw ⟨rfl, rfl, rfl, rfl, rfl, rfl, rfl, rfl, congrArg (fun x => some (SV.v (.i .i64) x)) wi, trivial⟩
 ·have hk2 : i = pss.length := by have h' : ¬ (i : Int) < (((Za1 pss).length : Nat) : Int) := of_decide_eq_false h; omega
  subst hk2
  exact ⟨rfl, _, rfl, rfl⟩
def c42 (pss qss : List (List Rat)) (i : Nat) : TM := [(0, .v (.l (.l .s)) (Za1 pss)), (1, .v (.l (.l .s)) (Za1 qss)), (7, .v (.l (.l .s)) (Za1 (Zc4 pss qss))), (180, .v (.l (.l .s)) (Za1 pss)), (181, .v (.i .i64) (((Za1 pss).length : Nat) : Int)), (182, .v (.i .i64) (i : Int))]
set_option maxHeartbeats 8000000 in
theorem ZwR (pss qss : List (List Rat)) (hp : ∀ ps ∈ pss, ps.length = qss.length) (hq : ∀ qs ∈ qss, qs.length = ZbM qss) (hl : pss.length ≤ 40) (hl2 : qss.length ≤ 40) (hw : ZbM qss ≤ 40) (d1 : ∀ ps ∈ pss, ∀ p ∈ ps, dz p 12) (d2 : ∀ ps ∈ qss, ∀ p ∈ ps, dz p 12) :
 LoopOK Tryz.prog Zat 0 Zug (ZcO Tryz.f4 42) (c42 pss qss 0) []
 (fun e tm hp => e = .exit 4 ∧ ∃ Z : SV, tm = (183, Z) :: c42 pss qss pss.length ∧ hp = []) := by
 have hll : (Za1 pss).length = pss.length := List.length_map _
 refine Zav Zaj rfl (c42 pss qss) (fun _ => []) (fun k => k ≤ pss.length) (fun k => pss.length - k) ?_ 0 (Nat.zero_le _) Zbt
 intro i hi
 refine And.intro (fun h => ?_) (fun h => ?_)
 ·have hlt : i < pss.length := by have h' : (i : Int) < (((Za1 pss).length : Nat) : Int) := of_decide_eq_true h; omega
  have gx : (Za1 pss)[(i : Int).toNat]? = some (pss[i].map ZaK) := by rw [Int.toNat_natCast]; exact ZhZ hlt
  have gm : (Za1 (Zc4 pss qss))[(i : Int).toNat]? = some (((trD 0 (ZbM qss) qss).map fun col => ZbU pss[i] col).map ZaK) := by
   rw [Int.toNat_natCast, ZhZ (by rw [Zc4, List.length_map]; exact hlt)]
   simp only [Zc4, List.getElem_map]
  have wi : IntKind.i64.wrap ((i : Int) + 1) = ((i + 1 : Nat) : Int) := Zam (by omega) (by omega)
  have hpi := hp _ (List.getElem_mem hlt)
  have hdi := d1 _ (List.getElem_mem hlt)
  obtain ⟨ps, hps⟩ : ∃ x, pss[i] = x := ⟨_, rfl⟩
  rw [hps] at gx gm hpi hdi
  have hR : ((((trD 0 (ZbM qss) qss).map fun col => ZbU ps col).map ZaK).length) = ZbM qss := by rw [List.length_map, List.length_map, Zgh]
  have gk : ∀ k, k < ZbM qss → (((trD 0 (ZbM qss) qss).map fun col => ZbU ps col).map ZaK)[k]? = some (ZaK (ZbU ps (Zgq 0 qss k))) := fun k hk => by
   rw [List.getElem?_map, List.getElem?_map, trD, List.getElem?_map, List.getElem?_range hk]
   rfl
  obtain ⟨R, hRR⟩ : ∃ x, ((trD 0 (ZbM qss) qss).map fun col => ZbU ps col).map ZaK = x := ⟨_, rfl⟩
  rw [hRR] at gm hR gk
  refine ⟨_, Int.natCast_nonneg i, gx, ?_⟩
  refine ⟨R, Int.natCast_nonneg i, gm, ?_⟩
  refine (Zg7 (Za1 qss)).mono ?_
  rintro _ rfl
  refine And.intro (fun h2 => ?_) (fun h2 => ?_)
  ·have h2' : (!decide ((R.length : Int) = ((wid (Za1 qss) : Nat) : Int))) = true := h2
   rw [Zhq, hR, decide_eq_true rfl] at h2'
   cases h2'
  refine ⟨R, Int.natCast_nonneg i, gm, ?_⟩
  refine Zav Zaj rfl (fun (k : Nat) => c42 pss qss i ++ [(20, .v (.l .s) (ps.map ZaK)), (198, .v (.l .s) R), (199, .v (.i .i64) (R.length : Int)), (200, .v (.i .i64) (k : Int))]) (fun _ => []) (fun k => k ≤ ZbM qss) (fun k => ZbM qss - k) ?_ 0 (Nat.zero_le _) ?_
  ·intro k hk
   refine And.intro (fun h => ?_) (fun h => ?_)
   ·have hkl : k < ZbM qss := by have h' : (k : Int) < (R.length : Int) := of_decide_eq_true h; omega
    have g1 : R[(k : Int).toNat]? = some (ZaK (ZbU ps (Zgq 0 qss k))) := by rw [Int.toNat_natCast]; exact gk k hkl
    have wk : IntKind.i64.wrap ((k : Int) + 1) = ((k + 1 : Nat) : Int) := Zam (by omega) (by omega)
    refine ⟨_, Int.natCast_nonneg k, g1, ?_⟩
    refine (ZoE qss k hkl hq (by omega)).mono ?_
    rintro _ rfl
    refine (Zur ps (Zgq 0 qss k) (by rw [Zos]; exact hpi) (by omega) hdi (ZnA hkl hq d2)).mono ?_
    rintro _ rfl
    refine And.intro (fun h2 => ?_) (fun h2 => ?_)
    ·have h2' : (!(ZaK (ZbU ps (Zgq 0 qss k)) == ZaK (ZbU ps (Zgq 0 qss k)))) = true := h2
     rw [ZjD] at h2'
     cases h2'
    ·refine ⟨k + 1, hkl, by show ZbM qss - (k + 1) < ZbM qss - k; omega, ?_⟩
     exact Zbw ⟨rfl, rfl, rfl, rfl, rfl, rfl, rfl, rfl, rfl, congrArg (fun x => some (SV.v (.i .i64) x)) wk, trivial⟩
   ·refine ⟨i + 1, hlt, by show pss.length - (i + 1) < pss.length - i; omega, ?_⟩
    exact Zbw ⟨rfl, rfl, rfl, rfl, rfl, congrArg (fun x => some (SV.v (.i .i64) x)) wi, trivial⟩
  ·exact Zbw ⟨rfl, rfl, rfl, rfl, rfl, rfl, rfl, rfl, rfl, rfl, trivial⟩
 ·have hk2 : i = pss.length := by have h' : ¬ (i : Int) < (((Za1 pss).length : Nat) : Int) := of_decide_eq_false h; omega
  subst hk2
  exact ⟨rfl, _, rfl, rfl⟩
end Go.Proofs.YtnfgnkbgajhhbaaGreatDoor
/-
 The law MatrixProducts: what its parts give.
-/
namespace Go.Proofs.YtnfgnkbgajhhbaaGreatDoor
open Go.Am Go.Tx Dv Go.Lib
set_option maxRecDepth 100000
theorem ZuK (a b : List (List (List UInt8))) : PureOK Tryz.prog Zat 19 [.v (.i .i64) 6, .v (.l (.l (.l .s))) (sub [a, b] 0 2)] (fun V => V = .v .b (Zcu 6 [a, b])) :=
 Zui 6 [a, b] (show 2 ≤ 1000 by decide) fun x _ h1 => ⟨by omega, fun v _ h2 => by omega⟩
theorem Zq9 (a b : List (List (List UInt8))) (v : List (List UInt8)) : PureOK Tryz.prog Zat 19 [.v (.i .i64) 6, .v (.l (.l (.l .s))) [a, b, sub [v] 0 1]] (fun V => V = .v .b (Zcu 6 [a, b, [v]])) :=
 Zui 6 [a, b, [v]] (show 3 ≤ 1000 by decide) fun x _ h1 => ⟨by omega, fun v _ h2 => by omega⟩
theorem Zva {a b : List (List (List UInt8))} {v : List (List UInt8)} (h : Zcu 6 [a, b] = true) : Zcu 6 [a, b, [v]] = true := by
 simp only [Zcu] at h ⊢
 cases h1 : decide ((6 : Int) < (a.length : Int)) || ZgV 6 a with
 | true => rfl
 | false =>
  rw [h1] at h
  simp only at h ⊢
  cases h2 : decide ((6 : Int) < (b.length : Int)) || ZgV 6 b with
  | true => rfl
  | false => rw [h2] at h; cases h
theorem Zfz {l : List (List (List (List UInt8)))} {pss : List (List Rat)} (h : Zcu 6 l = false) (hm : Za1 pss ∈ l) : pss.length ≤ 6 ∧ (∀ ps ∈ pss, ps.length ≤ 6) ∧ ∀ ps ∈ pss, ∀ p ∈ ps, dz p 12 := by
 obtain ⟨h1, h2⟩ := ZhM h _ hm
 have h3 := Zh4 h2
 rw [show (Za1 pss).length = pss.length from List.length_map _] at h1
 refine ⟨by omega, fun ps hp => ?_, fun ps hp p hpp => ?_⟩
 ·have := (h3 (ps.map ZaK) (List.mem_map_of_mem hp)).1
  rw [List.length_map] at this
  omega
 ·have := (h3 (ps.map ZaK) (List.mem_map_of_mem hp)).2 (ZaK p) (List.mem_map_of_mem hpp)
  exact Zr4 (by omega) (by decide)
theorem ZlJ {l : List (List (List (List UInt8)))} {qs : List Rat} (h : Zcu 6 l = false) (hm : [qs.map ZaK] ∈ l) : qs.length ≤ 6 ∧ ∀ q ∈ qs, dz q 12 := by
 obtain ⟨_, h2⟩ := ZhM h _ hm
 obtain ⟨h3, h4⟩ := Zh4 h2 _ List.mem_cons_self
 rw [List.length_map] at h3
 exact ⟨by omega, fun q hq => Zr4 (by have := h4 (ZaK q) (List.mem_map_of_mem hq); omega) (by decide)⟩
theorem ZrG {ps qs : List Rat} (hl : ps.length ≤ 6) (h1 : ∀ p ∈ ps, dz p 12) (h2 : ∀ q ∈ qs, dz q 12) : ZgG (ZbU ps qs) = true :=
 ZwN (show 25 * 6 + 1 ≤ 2000 by decide) (Zge (by omega) (ZmG h1 h2))
theorem Zsz {pss qss : List (List Rat)} (hl : ∀ ps ∈ pss, ps.length ≤ 6) (hr : ∀ qs ∈ qss, qs.length = ZbM qss) (d1 : ∀ ps ∈ pss, ∀ p ∈ ps, dz p 12) (d2 : ∀ ps ∈ qss, ∀ p ∈ ps, dz p 12) : Zr3 (Zc4 pss qss) = true := by
 refine Zki fun r hr1 q hq => ?_
 obtain ⟨ps, hp, rfl⟩ := List.mem_map.1 hr1
 obtain ⟨c, hc, rfl⟩ := List.mem_map.1 hq
 obtain ⟨k, hk, rfl⟩ := List.mem_map.1 hc
 exact ZrG (hl ps hp) (d1 ps hp) (ZnA (List.mem_range.1 hk) hr d2)
def Zye (a b : List (List (List UInt8))) (pss : List (List Rat)) (M : SV) (e : Int) : Prop :=
 (decide (Zba b = 0) = false ∧ M = .nils ∧ e = Zba b) ∨
 (Zba b = 0 ∧ (!decide (((wid a : Nat) : Int) = (b.length : Int))) = true ∧ M = .nils ∧ e = 3) ∨
 (Zba b = 0 ∧ (!decide (((wid a : Nat) : Int) = (b.length : Int))) = false ∧ ∃ qss, Mat b qss ∧ ZbM pss = qss.length ∧ M = .v (.l (.l .s)) (Za1 (Zc4 pss qss)) ∧ e = 0) ∨
 (Zba b = 0 ∧ (!decide (((wid a : Nat) : Int) = (b.length : Int))) = false ∧ M = .nils ∧ e = 2 ∧ Zcu 6 [a, b] = true)
theorem ZnK : ∀ {ps qs : List Rat}, ps.map ZaK = qs.map ZaK → ps = qs
 | [], [], _ => rfl
 | [], _ :: _, h => by cases h
 | _ :: _, [], h => by cases h
 | p :: ps, q :: qs, h => by
  obtain ⟨h1, h2⟩ := List.cons.inj h
  rw [ZtI h1, ZnK h2]
theorem ZpU : ∀ {pss qss : List (List Rat)}, Za1 pss = Za1 qss → pss = qss
 | [], [], _ => rfl
 | [], _ :: _, h => by cases h
 | _ :: _, [], h => by cases h
 | p :: ps, q :: qs, h => by
  obtain ⟨h1, h2⟩ := List.cons.inj h
  rw [ZnK h1, ZpU h2]
theorem Mat.uniq {m : List (List (List UInt8))} {pss qss : List (List Rat)} (h1 : Mat m pss) (h2 : Mat m qss) : pss = qss := ZpU (h1.txt.symm.trans h2.txt)
theorem Znt (x : Int) : ZfC 0 x = x := rfl
theorem Zp8 {g x : Int} (h : decide (g = 0) = false) : ZfC g x = g := by rw [ZfC, h]
theorem ZtB {a b : List (List (List UInt8))} {pss : List (List Rat)} {V : SV} (ha : Zba a = 0) (hM : Mat a pss) (h : Zwx a b V) : ∃ M e, V = .tup [M, .v (.i .i64) e] ∧ Zye a b pss M e := by
 have hE : Zsp a b = match decide (ZfC (Zba a) (Zba b) = 0) with | false => ZfC (Zba a) (Zba b) | true => match !decide (((wid a : Nat) : Int) = (b.length : Int)) with | true => 3 | false => 0 := rfl
 rw [ha, Znt] at hE
 rcases h with ⟨h1, rfl⟩ | ⟨h1, _, hb, p2, qss, hp, hq, hw, rfl⟩
 ·cases h2 : decide (Zba b = 0) with
  | false =>
   rw [h2] at hE
   exact ⟨_, _, rfl, .inl ⟨h2, rfl, hE⟩⟩
  | true =>
   rw [h2] at hE
   simp only at hE
   cases h3 : (!decide (((wid a : Nat) : Int) = (b.length : Int))) with
   | true =>
    rw [h3] at hE
    exact ⟨_, _, rfl, .inr (.inl ⟨of_decide_eq_true h2, h3, rfl, hE⟩)⟩
   | false =>
    rw [h3] at hE
    rw [show Zsp a b = 0 from hE] at h1
    cases h1
 ·obtain rfl := hM.uniq hp
  rw [hb] at hE
  cases h3 : (!decide (((wid a : Nat) : Int) = (b.length : Int))) with
  | true =>
   rw [h3, h1] at hE
   cases hE
  | false =>
   cases h4 : Zr3 (Zc4 pss qss) with
   | true => exact ⟨_, _, by rw [Zut, h4], .inr (.inr (.inl ⟨hb, h3, qss, hq, hw, rfl, rfl⟩))⟩
   | false =>
    refine ⟨_, _, by rw [Zut, h4], .inr (.inr (.inr ⟨hb, h3, rfl, rfl, ?_⟩))⟩
    cases h5 : Zcu 6 [a, b] with
    | true => rfl
    | false =>
     obtain ⟨_, s2, s3⟩ := Zfz (pss := pss) h5 (by rw [← hM.txt]; exact List.mem_cons_self)
     obtain ⟨_, _, s4⟩ := Zfz (pss := qss) h5 (by rw [← hq.txt]; exact List.mem_cons_of_mem _ List.mem_cons_self)
     rw [Zsz s2 hq.row s3 s4] at h4
     cases h4
def ApC (a b : List (List (List UInt8))) (v : List (List UInt8)) (pss : List (List Rat)) (X : SV) (f : Int) : Prop :=
 (decide (Zcy v = 0) = false ∧ X = .nils ∧ f = Zcy v) ∨
 (Zcy v = 0 ∧ decide ((0 : Int) < (a.length : Int)) = true ∧ (!decide (((wid a : Nat) : Int) = (v.length : Int))) = true ∧ X = .nils ∧ f = 3) ∨
 (Zcy v = 0 ∧ (decide ((0 : Int) < (a.length : Int)) && !decide (((wid a : Nat) : Int) = (v.length : Int))) = false ∧ ∃ qs, v = qs.map ZaK ∧ qs.length ≤ 40 ∧ (∀ ps ∈ pss, ps.length = qs.length) ∧ X = .v (.l .s) ((pss.map fun ps => ZbU ps qs).map ZaK) ∧ f = 0) ∨
 (Zcy v = 0 ∧ (decide ((0 : Int) < (a.length : Int)) && !decide (((wid a : Nat) : Int) = (v.length : Int))) = false ∧ X = .nils ∧ f = 2 ∧ Zcu 6 [a, b, [v]] = true)
theorem Zvx {a b : List (List (List UInt8))} {v : List (List UInt8)} {pss : List (List Rat)} {V : SV} (ha : Zba a = 0) (hM : Mat a pss) (h : ZlW a v V) : ∃ X f, V = .tup [X, .v (.i .i64) f] ∧ ApC a b v pss X f := by
 have hE : ZdS a v = match decide (ZfC (Zba a) (Zcy v) = 0) with | false => ZfC (Zba a) (Zcy v) | true => match decide ((0 : Int) < (a.length : Int)) && !decide (((wid a : Nat) : Int) = (v.length : Int)) with | true => 3 | false => 0 := rfl
 rw [ha, Znt] at hE
 rcases h with ⟨h1, rfl⟩ | ⟨h1, _, p2, qs, hp, hqs, hqf, hql, hlen, rfl⟩
 ·cases h2 : decide (Zcy v = 0) with
  | false =>
   rw [h2] at hE
   exact ⟨_, _, rfl, .inl ⟨h2, rfl, hE⟩⟩
  | true =>
   rw [h2] at hE
   simp only at hE
   cases h3 : decide ((0 : Int) < (a.length : Int)) with
   | false =>
    rw [h3, Bool.false_and] at hE
    rw [show ZdS a v = 0 from hE] at h1
    cases h1
   | true =>
    rw [h3, Bool.true_and] at hE
    cases h4 : (!decide (((wid a : Nat) : Int) = (v.length : Int))) with
    | true =>
     rw [h4] at hE
     exact ⟨_, _, rfl, .inr (.inl ⟨of_decide_eq_true h2, h3, h4, rfl, hE⟩)⟩
    | false =>
     rw [h4] at hE
     rw [show ZdS a v = 0 from hE] at h1
     cases h1
 ·obtain rfl := hM.uniq hp
  have hv : Zcy v = 0 := by
   cases h2 : decide (Zcy v = 0) with
   | true => exact of_decide_eq_true h2
   | false =>
    rw [h2, h1] at hE
    exact absurd hE.symm (of_decide_eq_false h2)
  rw [hv] at hE
  cases h3 : (decide ((0 : Int) < (a.length : Int)) && !decide (((wid a : Nat) : Int) = (v.length : Int))) with
  | true =>
   rw [h3, h1] at hE
   cases hE
  | false =>
   cases h4 : Zmm (pss.map fun ps => ZbU ps qs) with
   | true => exact ⟨_, _, by rw [Zs1, h4], .inr (.inr (.inl ⟨hv, h3, qs, hqs, hql, hlen, rfl, rfl⟩))⟩
   | false =>
    refine ⟨_, _, by rw [Zs1, h4], .inr (.inr (.inr ⟨hv, h3, rfl, rfl, ?_⟩))⟩
    cases h5 : Zcu 6 [a, b, [v]] with
    | true => rfl
    | false =>
     obtain ⟨_, s2, s3⟩ := Zfz (pss := pss) h5 (by rw [← hM.txt]; exact List.mem_cons_self)
     obtain ⟨_, s4⟩ := ZlJ (qs := qs) h5 (by rw [← hqs]; simp)
     rw [Zj8 (ps := pss.map fun ps => ZbU ps qs) fun q hq => by
      obtain ⟨ps, hps, rfl⟩ := List.mem_map.1 hq
      exact ZrG (s2 ps hps) (s3 ps hps) s4] at h4
     cases h4
theorem ZuJ {a b : List (List (List UInt8))} {V : SV} (hg : decide (Zba a = 0) = false) (h : Zwx a b V) : V = .tup [.nils, .v (.i .i64) (Zba a)] := by
 have hE : Zsp a b = match decide (ZfC (Zba a) (Zba b) = 0) with | false => ZfC (Zba a) (Zba b) | true => match !decide (((wid a : Nat) : Int) = (b.length : Int)) with | true => 3 | false => 0 := rfl
 rw [Zp8 hg, hg] at hE
 rcases h with ⟨_, rfl⟩ | ⟨_, h0, _⟩
 ·rw [show Zsp a b = Zba a from hE]
 ·exact absurd h0 (of_decide_eq_false hg)
theorem ZwT {a : List (List (List UInt8))} {v : List (List UInt8)} {V : SV} (hg : decide (Zba a = 0) = false) (h : ZlW a v V) : V = .tup [.nils, .v (.i .i64) (Zba a)] := by
 have hE : ZdS a v = match decide (ZfC (Zba a) (Zcy v) = 0) with | false => ZfC (Zba a) (Zcy v) | true => match decide ((0 : Int) < (a.length : Int)) && !decide (((wid a : Nat) : Int) = (v.length : Int)) with | true => 3 | false => 0 := rfl
 rw [Zp8 hg, hg] at hE
 rcases h with ⟨_, rfl⟩ | ⟨_, h0, _⟩
 ·rw [show ZdS a v = Zba a from hE]
 ·exact absurd h0 (of_decide_eq_false hg)
end Go.Proofs.YtnfgnkbgajhhbaaGreatDoor
