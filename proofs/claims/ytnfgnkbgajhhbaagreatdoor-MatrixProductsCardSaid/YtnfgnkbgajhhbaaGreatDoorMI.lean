/-
 Texts of numbers, of rows, of matrices; the numbers of a matrix.
-/
import Derived.Test.YtnfgnkbgajhhbaaGreatDoorMH
set_option linter.constructorNameAsVariable false
set_option linter.unusedSimpArgs false
set_option linter.unusedVariables false
namespace Go.Proofs.YtnfgnkbgajhhbaaGreatDoor
open Go.Am Go.Tx Dv Go.Lib
set_option maxRecDepth 100000
theorem ZfA {α : Type} {l : List α} {n : Nat} (h : l.length = n) : sub l 0 n = l := by
 subst h
 rw [sub, List.drop_zero, List.take_of_length_le (Nat.le_refl _)]
def Zmm : List Rat → Bool
 | [] => true
 | q :: r => match ZgG q with
  | true => Zmm r
  | false => false
theorem Zj8 : ∀ {ps : List Rat}, (∀ p ∈ ps, ZgG p = true) → Zmm ps = true
 | [], _ => rfl
 | q :: r, h => by
  rw [Zmm, h q List.mem_cons_self]
  exact Zj8 fun p hp => h p (List.mem_cons_of_mem _ hp)
theorem ZkP {α β : Type} {g : α → β} {ps : List α} {out : List β} {i : Nat} (hlt : i < ps.length) (hlen : out.length = ps.length) (hval : out.take i = (ps.map g).take i) : (out.set i (g ps[i])).take (i + 1) = (ps.map g).take (i + 1) := by
 have ho : i < out.length := by omega
 have h1 : (out.set i (g ps[i])).take (i + 1) = out.take i ++ [g ps[i]] := by
  rw [List.take_succ_eq_append_getElem (by simpa using ho), List.getElem_set_self, List.take_set_of_le (Nat.le_refl _)]
 have hm : i < (ps.map g).length := by simpa using hlt
 rw [h1, List.take_succ_eq_append_getElem hm, List.getElem_map, hval]
set_option maxHeartbeats 8000000 in
theorem Ztg (ps : List Rat) (hl : ps.length ≤ 1000) : PureOK Tryz.prog Zat 99 [QL ps] (fun V => ∃ X, V = .tup [X, .v .b (Zmm ps)] ∧ (Zmm ps = true → X = .v (.l .s) (ps.map ZaK))) := by
 refine Zai Zaj Tryz.func99 ?_
 have hll : (ps.map Zbs).length = ps.length := List.length_map _
 have hg := fun i (h : i < ps.length) => ZtJ (ps := ps) h
 obtain ⟨L, hL⟩ : ∃ l, ps.map Zbs = l := ⟨_, rfl⟩
 rw [hL] at hll hg
 rw [show QL ps = .v (.l qct) L by rw [← hL]]
 refine And.intro (show 0 ≤ (L.length : Int) ∧ (L.length : Int) ≤ (L.length : Int) ∧ (16 : Int) * (L.length : Int) ≤ 281474976710656 ∧ (L.length : Int) < 9223372036854775808 by omega) ?_
 refine Zav Zaj rfl (fun (t : Nat × List (List UInt8)) => [(4, .ref 0 0 ps.length none), (12, .v (.l qct) L), (13, .v (.i .i64) (L.length : Int)), (14, .v (.i .i64) (t.1 : Int))]) (fun t => [.row .s t.2 true])
  (fun t => t.1 ≤ ps.length ∧ t.2.length = ps.length ∧ t.2.take t.1 = (ps.map ZaK).take t.1 ∧ Zmm (ps.drop t.1) = Zmm ps) (fun t => ps.length - t.1) ?_ (0, List.replicate ps.length []) ?_ ?_
 ·rintro ⟨i, out⟩ ⟨hi, hlen, hval, hfit⟩
  simp only at hi hlen hval hfit
  refine And.intro (fun h => ?_) (fun h => ?_)
  ·have hlt : i < ps.length := by have h' : (i : Int) < (L.length : Int) := of_decide_eq_true h; omega
   have gx : L[(i : Int).toNat]? = some (Zbs ps[i]) := by rw [Int.toNat_natCast]; exact hg i hlt
   have hstep := ZkP (g := ZaK) hlt hlen hval
   have ho : i < out.length := by omega
   have wi : IntKind.i64.wrap ((i : Int) + 1) = ((i + 1 : Nat) : Int) := Zam (by omega) (by omega)
   rw [List.drop_eq_getElem_cons hlt, Zmm] at hfit
   obtain ⟨q, hq⟩ : ∃ x, ps[i] = x := ⟨_, rfl⟩
   rw [hq] at gx hstep hfit
   refine ⟨Zbs q, Int.natCast_nonneg i, gx, ?_⟩
   refine And.intro rfl ?_
   refine And.intro rfl ?_
   refine (Zu8 q).mono ?_
   rintro _ ⟨X, rfl, hX⟩
   obtain ⟨f, hf⟩ : ∃ x, ZgG q = x := ⟨_, rfl⟩
   rw [hf] at hX hfit ⊢
   cases f with
   | false =>
    refine And.intro (fun _ => ?_) (fun h => nomatch h)
    simp only at hfit
    exact ⟨_, by rw [← hfit], fun h => by rw [← hfit] at h; cases h⟩
   | true =>
    refine And.intro (fun h => nomatch h) (fun _ => ?_)
    obtain rfl := hX rfl
    simp only at hfit
    refine And.intro ⟨Int.natCast_nonneg i, by show (i : Int) < ((ps.length : Nat) : Int); omega⟩ ?_
    refine Exists.intro (out[i]) (And.intro (by simp) ?_)
    refine ⟨(i + 1, out.set i (ZaK q)), ⟨hlt, by show (out.set _ _).length = _; simpa using hlen, hstep, hfit⟩, by show ps.length - (i + 1) < ps.length - i; omega, ?_⟩
    have er : out.set i (ZaK q) = out.set (0 + (i : Int).toNat) (ZaK q) := by rw [Int.toNat_natCast, Nat.zero_add]
    refine Zan rfl rfl ?_ ?_
    ·exact ⟨⟨rfl, rfl, rfl⟩, rfl, rfl, wi.symm, trivial⟩
    ·exact ⟨⟨er, fun _ => rfl⟩, trivial⟩
  ·have hi2 : i = ps.length := by have h' : ¬ (i : Int) < (L.length : Int) := of_decide_eq_false h; omega
   have ho : out = ps.map ZaK := by
    rw [hi2, List.take_of_length_le (by omega), List.take_of_length_le (by simp)] at hval
    exact hval
   have hf : Zmm ps = true := by rw [← hfit, hi2, List.drop_length]; rfl
   refine ⟨by show 0 + ps.length ≤ out.length; omega, ?_⟩
   refine ⟨_, by rw [hf], fun _ => ?_⟩
   show SV.v (.l .s) (sub out 0 ps.length) = _
   rw [ho, sub, List.drop_zero, List.take_of_length_le (by simp)]
 ·exact ⟨Nat.zero_le _, by simp, by simp, rfl⟩
 ·have e1 : ps.length = ((L.length : Nat) : Int).toNat := by omega
  refine Zan rfl rfl ?_ ?_
  ·exact ⟨⟨rfl, e1, e1⟩, rfl, rfl, rfl, trivial⟩
  ·exact ⟨⟨by rw [e1]; rfl, fun _ => rfl⟩, trivial⟩
def Zs1 (ps : List Rat) : SV := match Zmm ps with
 | true => .tup [.v (.l .s) (ps.map ZaK), .v (.i .i64) (0 : Int)]
 | false => .tup [.nils, .v (.i .i64) (2 : Int)]
theorem ZkY (ps : List Rat) (hl : ps.length ≤ 1000) : PureOK Tryz.prog Zat 58 [QL ps] (fun V => V = Zs1 ps) := by
 unfold Zs1
 refine Zai Zaj Tryz.func58 ?_
 refine (Ztg ps hl).mono ?_
 rintro _ ⟨X, rfl, hX⟩
 cases hf : Zmm ps with
 | false =>
  rw [hf] at hX
  exact And.intro (fun _ => rfl) (fun h => nomatch h)
 | true =>
  obtain rfl := hX hf
  exact And.intro (fun h => nomatch h) (fun _ => rfl)
def Ze3 (pss : List (List Rat)) : List (List qct.D) := pss.map fun ps => ps.map Zbs
def Za1 (pss : List (List Rat)) : List (List (List UInt8)) := pss.map fun ps => ps.map ZaK
theorem Zkk {pss : List (List Rat)} {i : Nat} (h : i < pss.length) : (Ze3 pss)[i]? = some (pss[i].map Zbs) := by
 rw [Ze3, List.getElem?_map, List.getElem?_eq_getElem h]
 rfl
theorem ZhZ {pss : List (List Rat)} {i : Nat} (h : i < pss.length) : (Za1 pss)[i]? = some (pss[i].map ZaK) := by
 rw [Za1, List.getElem?_map, List.getElem?_eq_getElem h]
 rfl
def Zr3 : List (List Rat) → Bool
 | [] => true
 | ps :: r => match Zmm ps with
  | true => Zr3 r
  | false => false
theorem Zki : ∀ {pss : List (List Rat)}, (∀ ps ∈ pss, ∀ p ∈ ps, ZgG p = true) → Zr3 pss = true
 | [], _ => rfl
 | q :: r, h => by
  rw [Zr3, Zj8 (h q List.mem_cons_self)]
  exact Zki fun p hp => h p (List.mem_cons_of_mem _ hp)
theorem Ze1 {α β : Type} {g : α → β} {ps : List α} {i : Nat} (hlt : i < ps.length) : (ps.take i).map g ++ [g ps[i]] = (ps.take (i + 1)).map g := by
 rw [List.take_succ_eq_append_getElem hlt, List.map_append]
 rfl
def Zut (pss : List (List Rat)) : SV := match Zr3 pss with
 | true => .tup [.v (.l (.l .s)) (Za1 pss), .v (.i .i64) (0 : Int)]
 | false => .tup [.nils, .v (.i .i64) (2 : Int)]
set_option maxHeartbeats 8000000 in
theorem ZrX (pss : List (List Rat)) (hl : pss.length ≤ 1000) (hr : ∀ ps ∈ pss, ps.length ≤ 1000) : PureOK Tryz.prog Zat 56 [.v (.l (.l qct)) (Ze3 pss)] (fun V => V = Zut pss) := by
 unfold Zut
 refine Zai Zaj Tryz.func56 ?_
 have hll : (Ze3 pss).length = pss.length := List.length_map _
 have hg := fun i (h : i < pss.length) => Zkk h
 obtain ⟨L, hL⟩ : ∃ l, Ze3 pss = l := ⟨_, rfl⟩
 rw [hL] at hll hg ⊢
 refine Zav Zaj rfl (fun (i : Nat) => [(4, .ref 0 0 i none), (9, .v (.l (.l qct)) L), (10, .v (.i .i64) (L.length : Int)), (11, .v (.i .i64) (i : Int))]) (fun i => [.row (.l .s) ((pss.take i).map fun ps => ps.map ZaK) true])
  (fun i => i ≤ pss.length ∧ Zr3 (pss.drop i) = Zr3 pss) (fun i => pss.length - i) ?_ 0 ?_ ?_
 ·rintro i ⟨hi, hfit⟩
  refine And.intro (fun h => ?_) (fun h => ?_)
  ·have hlt : i < pss.length := by have h' : (i : Int) < (L.length : Int) := of_decide_eq_true h; omega
   have gx : L[(i : Int).toNat]? = some (pss[i].map Zbs) := by rw [Int.toNat_natCast]; exact hg i hlt
   have hsn := Ze1 (g := fun ps : List Rat => ps.map ZaK) hlt
   have wi : IntKind.i64.wrap ((i : Int) + 1) = ((i + 1 : Nat) : Int) := Zam (by omega) (by omega)
   have hrl := hr pss[i] (List.getElem_mem hlt)
   rw [List.drop_eq_getElem_cons hlt, Zr3] at hfit
   obtain ⟨ps, hq⟩ : ∃ x, pss[i] = x := ⟨_, rfl⟩
   rw [hq] at gx hfit hrl hsn
   refine ⟨ps.map Zbs, Int.natCast_nonneg i, gx, ?_⟩
   refine (ZkY ps hrl).mono ?_
   intro V hV
   unfold Zs1 at hV
   cases hf : Zmm ps with
   | false =>
    rw [hf] at hV hfit
    simp only at hV hfit
    subst hV
    refine And.intro (fun _ => ?_) (fun h => nomatch h)
    rw [← hfit]
    rfl
   | true =>
    rw [hf] at hV hfit
    simp only at hV hfit
    subst hV
    refine And.intro (fun h => nomatch h) (fun _ => ?_)
    have hlen : ((pss.take i).map fun ps => ps.map ZaK).length = i := by rw [List.length_map, List.length_take]; omega
    refine And.intro (show 0 + 1 ≤ 1 by decide) ?_
    refine And.intro (Nat.le_of_eq ((Nat.zero_add i).trans hlen.symm)) ?_
    refine And.intro (show (i + (0 + 1)) * 24 ≤ 140737488355328 by omega) ?_
    refine ⟨i + 1, ⟨hlt, hfit⟩, by show pss.length - (i + 1) < pss.length - i; omega, ?_⟩
    refine Zan rfl rfl ?_ ?_
    ·exact ⟨⟨rfl, rfl, rfl⟩, rfl, rfl, wi.symm, trivial⟩
    ·refine ⟨⟨?_, fun _ => rfl⟩, trivial⟩
     show ((pss.take (i + 1)).map fun ps => ps.map ZaK) = sub ((pss.take i).map fun ps => ps.map ZaK) 0 i ++ [ps.map ZaK]
     rw [← hsn, ZfA hlen]
  ·have hi2 : i = pss.length := by have h' : ¬ (i : Int) < (L.length : Int) := of_decide_eq_false h; omega
   have hf : Zr3 pss = true := by rw [← hfit, hi2, List.drop_length]; rfl
   rw [hf, hi2, List.take_length]
   refine ⟨by show 0 + pss.length ≤ (pss.map fun ps => ps.map ZaK).length; rw [List.length_map]; omega, ?_⟩
   show SV.tup [SV.v (.l (.l .s)) (sub (pss.map fun ps => ps.map ZaK) 0 pss.length), SV.v (.i .i64) (0 : Int)] = SV.tup [.v (.l (.l .s)) (Za1 pss), .v (.i .i64) (0 : Int)]
   rw [sub, List.drop_zero, List.take_of_length_le (by rw [List.length_map]; omega)]
   rfl
 ·exact ⟨Nat.zero_le _, rfl⟩
 ·refine Zan rfl rfl ?_ ?_
  ·exact ⟨⟨rfl, rfl, rfl⟩, rfl, rfl, rfl, trivial⟩
  ·exact ⟨rfl, trivial⟩
end Go.Proofs.YtnfgnkbgajhhbaaGreatDoor
/-
 The numbers of a matrix.
-/
namespace Go.Proofs.YtnfgnkbgajhhbaaGreatDoor
open Go.Am Go.Tx Dv Go.Lib
set_option maxRecDepth 100000
def Zuu (pss : List (List Rat)) (n : Nat) : List SV := (pss.map fun ps => SV.v (.l qct) (ps.map Zbs)) ++ List.replicate n .nils
theorem Zty {pss : List (List Rat)} {i : Nat} (hlt : i < pss.length) : (Zuu (pss.take i) (pss.length - i)).set i (.v (.l qct) (pss[i].map Zbs)) = Zuu (pss.take (i + 1)) (pss.length - (i + 1)) := by
 have h1 : ((pss.take i).map fun ps => SV.v (.l qct) (ps.map Zbs)).length = i := by rw [List.length_map, List.length_take]; omega
 rw [Zuu, Zuu, List.set_append_right _ _ (by omega), h1, Nat.sub_self, show pss.length - i = (pss.length - (i + 1)) + 1 by omega, List.replicate_succ, List.set_cons_zero, ← Ze1 (g := fun ps : List Rat => SV.v (.l qct) (ps.map Zbs)) hlt, List.append_assoc]
 rfl
theorem Zli {hp : List SM} {m : Nat} {ct : CT} : ∀ {l : List (List ct.D)} {k : List SV → Prop}, k (l.map fun x => SV.v (.l ct) x) → ZfF (ZgW hp (m + 2)) (l.map fun x => SV.v (.l ct) x) k
 | [], _, hk => hk
 | x :: r, k, hk => by
  simp only [List.map_cons, ZfF, ZgW]
  exact Zli (l := r) hk
theorem ZsF {ct : CT} {l : List (List ct.D)} {m : Bool} {n d : Nat} {o : Option Nat} {ex : List SM} {k : SV → Prop} (hn : n = l.length) (hk : k (.v (.l (.l ct)) l)) : ZgW (.many (.l ct) (l.map fun x => SV.v (.l ct) x) m :: ex) (d + 3) (.ref 0 0 n o) k := by
 simp only [ZgW, nth]
 refine ⟨by rw [List.length_map]; omega, ?_⟩
 rw [show sub (l.map fun x => SV.v (.l ct) x) 0 n = l.map fun x => SV.v (.l ct) x by rw [sub, List.drop_zero, List.take_of_length_le (by rw [List.length_map]; omega)]]
 refine Zli ?_
 rw [ZjE]
 exact hk
set_option maxHeartbeats 8000000 in
theorem Zhh (pss : List (List Rat)) (hl : pss.length ≤ 1000) (hr : ∀ ps ∈ pss, ps.length ≤ 1000) (hf : ∀ ps ∈ pss, ∀ p ∈ ps, ZgG p = true) : PureOK Tryz.prog Zat 53 [.v (.l (.l .s)) (Za1 pss)] (fun V => V = .v (.l (.l qct)) (Ze3 pss)) := by
 refine Zai Zaj Tryz.func53 ?_
 have hll : (Za1 pss).length = pss.length := List.length_map _
 have hg := fun i (h : i < pss.length) => ZhZ h
 obtain ⟨L, hL⟩ : ∃ l, Za1 pss = l := ⟨_, rfl⟩
 rw [hL] at hll hg ⊢
 refine And.intro (show 0 ≤ (L.length : Int) ∧ (L.length : Int) ≤ (L.length : Int) ∧ (24 : Int) * (L.length : Int) ≤ 281474976710656 ∧ (L.length : Int) < 9223372036854775808 by omega) ?_
 refine Zav Zaj rfl (fun (t : Nat × List SV) => [(3, .ref 0 0 pss.length none), (9, .v (.l (.l .s)) L), (10, .v (.i .i64) (L.length : Int)), (11, .v (.i .i64) (t.1 : Int))]) (fun t => [.many (.l qct) t.2 true])
  (fun t => t.1 ≤ pss.length ∧ t.2 = Zuu (pss.take t.1) (pss.length - t.1)) (fun t => pss.length - t.1) ?_ (0, List.replicate ((L.length : Nat) : Int).toNat .nils) ?_ ?_
 ·rintro ⟨i, els⟩ ⟨hi, hels⟩
  simp only at hi hels
  refine And.intro (fun h => ?_) (fun h => ?_)
  ·have hlt : i < pss.length := by have h' : (i : Int) < (L.length : Int) := of_decide_eq_true h; omega
   have gx : L[(i : Int).toNat]? = some (pss[i].map ZaK) := by rw [Int.toNat_natCast]; exact hg i hlt
   have hset := Zty hlt
   rw [← hels] at hset
   have hel : els.length = pss.length := by rw [hels, Zuu, List.length_append, List.length_map, List.length_take, List.length_replicate]; omega
   have wi : IntKind.i64.wrap ((i : Int) + 1) = ((i + 1 : Nat) : Int) := Zam (by omega) (by omega)
   have hrl := hr pss[i] (List.getElem_mem hlt)
   have hfi := hf pss[i] (List.getElem_mem hlt)
   obtain ⟨ps, hq⟩ : ∃ x, pss[i] = x := ⟨_, rfl⟩
   rw [hq] at gx hset hrl hfi
   refine ⟨ps.map ZaK, Int.natCast_nonneg i, gx, ?_⟩
   refine (ZiV ps (by omega) hfi).mono ?_
   rintro _ rfl
   refine And.intro ⟨Int.natCast_nonneg i, by show (i : Int) < ((pss.length : Nat) : Int); omega⟩ ?_
   refine And.intro (show 0 + (i : Int).toNat < els.length by rw [hel]; omega) ?_
   refine ⟨(i + 1, els.set (0 + (i : Int).toNat) (.v (.l qct) (ps.map Zbs))), ⟨hlt, ?_⟩, by show pss.length - (i + 1) < pss.length - i; omega, ?_⟩
   ·show els.set (0 + (i : Int).toNat) _ = _
    rw [Int.toNat_natCast, Nat.zero_add]
    exact hset
   ·exact Zbw ⟨rfl, rfl, rfl, congrArg (fun x => some (SV.v (.i .i64) x)) wi, trivial⟩
  ·have hi2 : i = pss.length := by have h' : ¬ (i : Int) < (L.length : Int) := of_decide_eq_false h; omega
   have he : els = (Ze3 pss).map fun x => SV.v (.l qct) x := by
    rw [hels, hi2, Nat.sub_self, Zuu, List.replicate_zero, List.append_nil, List.take_length, Ze3, List.map_map]
    rfl
   have hfin : ZgW [.many (.l qct) els true] (37 + 3) (.ref 0 0 pss.length none) (fun V => V = SV.v (.l (.l qct)) (Ze3 pss)) := by
    rw [he]
    exact ZsF (by rw [Ze3, List.length_map]) rfl
   exact hfin
 ·refine ⟨Nat.zero_le _, ?_⟩
  show List.replicate ((L.length : Nat) : Int).toNat SV.nils = Zuu (pss.take 0) (pss.length - 0)
  rw [Int.toNat_natCast, hll]
  rfl
 ·have e1 : ((L.length : Nat) : Int).toNat = pss.length := by omega
  exact Zbw ⟨congrArg (fun x => some (SV.ref 0 0 x none)) e1, rfl, rfl, rfl, trivial⟩
end Go.Proofs.YtnfgnkbgajhhbaaGreatDoor
/-
 What is not vast.
-/
namespace Go.Proofs.YtnfgnkbgajhhbaaGreatDoor
open Go.Am Go.Tx Dv Go.Lib
set_option maxRecDepth 100000
theorem ZjD (s : List UInt8) : (s == s) = true := by simp
theorem Zqb : dz 0 1 := ⟨Zr7 (by decide) (by decide), Zr7 (by decide) (by decide)⟩
end Go.Proofs.YtnfgnkbgajhhbaaGreatDoor
