/-
 lin.Width; matrix.transposed.
-/
import Derived.Test.YtnfgnkbgajhhbaaGreatDoorTxE
import Derived.Test.YtnfgnkbgajhhbaaGreatDoorM3
set_option linter.constructorNameAsVariable false
set_option linter.unusedSimpArgs false
set_option linter.unusedVariables false
namespace Go.Proofs.YtnfgnkbgajhhbaaGreatDoor
open Go.Am Go.Tx Dv Go.Lib
set_option maxRecDepth 100000
def ZbM {α : Type} : List (List α) → Nat
 | [] => 0
 | r :: _ => r.length
theorem Zsx (m : List (List qct.D)) : PureOK Tryz.prog Zat 97 [.v (.l (.l qct)) m] (fun V => V = .v (.i .i64) ((ZbM m : Nat) : Int)) := by
 refine Zai Zaj Tryz.func97 ?_
 refine And.intro (fun h => ?_) (fun h => ?_)
 ·have h' : decide ((m.length : Int) = 0) = true := h
  have h0 : m.length = 0 := by have := of_decide_eq_true h'; omega
  rw [List.length_eq_zero_iff.1 h0]
  rfl
 ·have h' : decide ((m.length : Int) = 0) = false := h
  cases m with
  | nil => cases h'
  | cons r m => exact ⟨r, Int.le_refl 0, rfl, rfl⟩
def Zgq {α : Type} (z : α) (m : List (List α)) (c : Nat) : List α := m.map fun r => r.getD c z
def trD {α : Type} (z : α) (w : Nat) (m : List (List α)) : List (List α) := (List.range w).map (Zgq z m)
def trP {α : Type} (z : α) (w : Nat) (m : List (List α)) (row : List α) (k : Nat) : List (List α) := (List.range w).map fun c => if c < k then Zgq z m c ++ [row.getD c z] else Zgq z m c
theorem Zvv {α : Type} (z : α) (w : Nat) : List.replicate w [] = trD z w [] := by
 apply List.ext_getElem?
 intro i
 rw [trD, List.getElem?_map]
 by_cases h : i < w
 ·rw [List.getElem?_replicate, if_pos h, List.getElem?_range h]; rfl
 ·rw [List.getElem?_eq_none (by simp; omega), List.getElem?_eq_none (by simp; omega)]; rfl
theorem Zs6 {α : Type} (z : α) (w : Nat) (m : List (List α)) (row : List α) : trP z w m row 0 = trD z w m := by
 rw [trP, trD]
 exact List.map_congr_left fun c _ => if_neg (Nat.not_lt_zero c)
theorem ZtD {α : Type} (z : α) (w : Nat) (m : List (List α)) (row : List α) : trP z w m row w = trD z w (m ++ [row]) := by
 rw [trP, trD]
 refine List.map_congr_left fun c hc => ?_
 rw [if_pos (List.mem_range.1 hc), Zgq, Zgq, List.map_append]
 rfl
theorem Zhw {α : Type} (z : α) (w : Nat) (m : List (List α)) (row : List α) (k : Nat) : (trP z w m row k).length = w := by rw [trP, List.length_map, List.length_range]
theorem Zn3 {α : Type} {z : α} {w : Nat} {m : List (List α)} {row : List α} {k c : Nat} (hc : c < (trP z w m row k).length) : (trP z w m row k)[c] = if c < k then Zgq z m c ++ [row.getD c z] else Zgq z m c := by
 simp only [trP, List.getElem_map, List.getElem_range]
theorem Zs3 {α : Type} {z : α} {w : Nat} {m : List (List α)} {row : List α} {k : Nat} (hk : k < (trP z w m row k).length) : (trP z w m row k).set k ((trP z w m row k)[k] ++ [row.getD k z]) = trP z w m row (k + 1) := by
 apply List.ext_getElem
 ·rw [List.length_set, Zhw, Zhw]
 ·intro c h1 h2
  rw [List.getElem_set]
  rw [Zn3 h2]
  by_cases hck : k = c
  ·subst hck
   rw [if_pos rfl, if_pos (Nat.lt_succ_self k), Zn3 hk, if_neg (Nat.lt_irrefl k)]
  ·rw [if_neg hck, Zn3 (by rw [Zhw]; rw [Zhw] at h2; exact h2)]
   by_cases hlt : c < k
   ·rw [if_pos hlt, if_pos (by omega)]
   ·rw [if_neg hlt, if_neg (by omega)]
set_option maxHeartbeats 8000000 in
theorem ZkV (m : List (List qct.D)) (z : qct.D) (w : Nat) (hr : ∀ r ∈ m, r.length = w) (hw : ZbM m = w) (h40 : w ≤ 1000) (hl : m.length ≤ 1000) : PureOK Tryz.prog Zat 54 [.v (.l (.l qct)) m] (fun V => V = .v (.l (.l qct)) (trD z w m)) := by
 refine Zai Zaj Tryz.func54 ?_
 have hW := Zsx m
 rw [hw] at hW
 refine hW.mono ?_
 rintro _ rfl
 refine And.intro (show 0 ≤ (w : Int) ∧ (w : Int) ≤ (w : Int) ∧ (24 : Int) * (w : Int) ≤ 281474976710656 ∧ (w : Int) < 9223372036854775808 by omega) ?_
 refine Zav Zaj rfl (fun (t : Nat × List (List qct.D)) => [(3, .ref 0 0 w none), (11, .v (.l (.l qct)) m), (12, .v (.i .i64) (m.length : Int)), (13, .v (.i .i64) (t.1 : Int))]) (fun t => .many (.l qct) (Zbj 1 t.2) true :: ([] ++ (ZbJ qct t.2 ++ [])))
  (fun t => t.1 ≤ m.length ∧ t.2 = trD z w (m.take t.1)) (fun t => m.length - t.1) ?_ (0, List.replicate w []) ⟨Nat.zero_le _, Zvv z w⟩ ?_
 ·rintro ⟨i, xs⟩ ⟨hi, hxs⟩
  simp only at hi hxs
  refine And.intro (fun h => ?_) (fun h => ?_)
  ·have hlt : i < m.length := by have h' : (i : Int) < (m.length : Int) := of_decide_eq_true h; omega
   have gx : m[(i : Int).toNat]? = some m[i] := by rw [Int.toNat_natCast, List.getElem?_eq_getElem hlt]
   have hrl := hr m[i] (List.getElem_mem hlt)
   have htk : m.take (i + 1) = m.take i ++ [m[i]] := List.take_succ_eq_append_getElem hlt
   obtain ⟨row, hrow⟩ : ∃ x, m[i] = x := ⟨_, rfl⟩
   rw [hrow] at gx hrl htk
   have w2 : IntKind.i64.wrap ((i : Int) + 1) = ((i + 1 : Nat) : Int) := Zam (by omega) (by omega)
   refine ⟨row, Int.natCast_nonneg i, gx, ?_⟩
   refine Zav Zaj rfl (fun (t : Nat × List (List qct.D)) => [(3, .ref 0 0 w none), (11, .v (.l (.l qct)) m), (12, .v (.i .i64) (m.length : Int)), (13, .v (.i .i64) (i : Int)), (17, .v (.l qct) row), (18, .v (.i .i64) (row.length : Int)), (19, .v (.i .i64) (t.1 : Int))]) (fun t => .many (.l qct) (Zbj 1 t.2) true :: ([] ++ (ZbJ qct t.2 ++ [])))
    (fun t => t.1 ≤ w ∧ t.2 = trP z w (m.take i) row t.1) (fun t => w - t.1) ?_ (0, xs) ⟨Nat.zero_le _, by rw [Zs6]; exact hxs⟩ ?_
   ·rintro ⟨k, ys⟩ ⟨hk, hys⟩
    simp only at hk hys
    refine And.intro (fun h => ?_) (fun h => ?_)
    ·have hkl : k < row.length := by have h' : (k : Int) < (row.length : Int) := of_decide_eq_true h; omega
     have hyl : ys.length = w := by rw [hys, Zhw]
     have hky : k < ys.length := by omega
     have gk : row[(k : Int).toNat]? = some row[k] := by rw [Int.toNat_natCast, List.getElem?_eq_getElem hkl]
     have hel : (Zbj 1 ys)[0 + (k : Int).toNat]? = some (.ref (k + 1) 0 ys[k].length none) := by rw [Int.toNat_natCast, Nat.zero_add]; exact ZdJ hky
     have ck : (0 : Int) ≤ (k : Int) ∧ (k : Int) < (w : Nat) := by omega
     have hyk : ys[k].length = i := by
      simp only [hys, Zn3, Nat.lt_irrefl, if_false, Zgq, List.length_map, List.length_take]
      omega
     have hz : (ys[k].length + 1) * 64 ≤ 140737488355328 := by omega
     have hc : 0 + (k : Int).toNat < (Zbj 1 ys).length := by rw [Za9]; omega
     have w3 : IntKind.i64.wrap ((k : Int) + 1) = ((k + 1 : Nat) : Int) := Zam (by omega) (by omega)
     have hgd : row.getD k z = row[k] := by rw [List.getD_eq_getElem?_getD, List.getElem?_eq_getElem hkl]; rfl
     obtain ⟨x, hx⟩ : ∃ x, row[k] = x := ⟨_, rfl⟩
     rw [hx] at gk hgd
     repeat (first | refine Zak ?_ | refine Zaf ?_ | refine Zac ?_)
     first | refine Zab (Zaa (id := 7) rfl ?_) | refine Zab (Zab (Zaa (id := 7) rfl ?_)) | refine Zaa (id := 7) rfl ?_ | refine Zab (Zad rfl (Zab (Zaa (id := 7) rfl ?_))) | refine Zad rfl (Zab (Zaa (id := 7) rfl ?_))
     refine Zah rfl (fun _ => rfl) rfl rfl ?_
     refine Zmk rfl (fun _ => rfl) (Int.natCast_nonneg k) gk rfl rfl ?_
     refine Zah rfl (fun _ => rfl) rfl rfl ?_
     refine ZjR rfl (fun _ => rfl) rfl rfl ?_
     refine Zwj ZmA ?_
     refine Zah rfl (fun _ => rfl) rfl rfl ?_
     refine ZbW rfl (Zqh rfl rfl rfl ((ZqX Zgs).trans rfl) rfl rfl rfl rfl ?_)
     refine Zjx rfl ?_
     refine Zal ?_
     repeat (first | refine Zaf ?_ | refine Zac ?_)
     repeat (first | refine Zak ?_ | refine Zaf ?_ | refine Zac ?_)
     first | refine Zab (ZaT (id := 8) rfl rfl ?_) | refine Zab (Zab (ZaT (id := 8) rfl rfl ?_)) | refine ZaT (id := 8) rfl rfl ?_ | refine Zab (Zad rfl (Zab (ZaT (id := 8) rfl rfl ?_))) | refine Zad rfl (Zab (ZaT (id := 8) rfl rfl ?_)) | refine Zab (Zad rfl (ZaT (id := 8) rfl rfl ?_)) | refine Zad rfl (ZaT (id := 8) rfl rfl ?_)
     refine Zry (Zxj Zgs) ?_
     refine ZgE rfl rfl rfl rfl rfl ?_
     refine ZgE rfl rfl rfl rfl rfl ?_
     refine ZgE rfl rfl rfl rfl rfl ?_
     refine ZgE rfl rfl rfl rfl rfl ?_
     refine Zua rfl rfl rfl (fun _ => rfl) ck rfl rfl ?_
     refine Zuw rfl rfl rfl (fun _ => rfl) hel rfl rfl ?_
     refine Zfy rfl rfl (Zq3 rfl rfl ((ZqX Zgs).trans rfl) rfl rfl ?_)
     refine Zjt rfl rfl ?_
     refine Zfy rfl rfl (opm (fun _ => rfl) rfl rfl ?_)
     refine Zry ZmA ?_
     refine ZwS rfl rfl rfl rfl (Zrs rfl rfl rfl rfl rfl rfl rfl rfl rfl rfl rfl hky rfl Zgs rfl hz ?_)
     refine Zqe rfl ?_
     refine Zjt rfl rfl ?_
     refine Zfy rfl rfl (opc (fun _ => rfl) ck rfl rfl ?_)
     refine ZwF rfl rfl (And.intro hc ?_)
     refine Zjx rfl ?_
     refine ZpV ?_
     repeat (first | refine Zaf ?_ | refine Zac ?_)
     have hst := Zs3 (z := z) (m := m.take i) (row := row) (by rw [← hys]; exact hky)
     simp only [← hys] at hst
     rw [hgd] at hst
     refine ⟨(k + 1, ys.set k (ys[k] ++ [x])), ⟨by show k + 1 ≤ w; omega, hst⟩, by show w - (k + 1) < w - k; omega, ?_⟩
     exact Zox (e := 2) (show 0 + (k : Int).toNat = k by rw [Int.toNat_natCast, Nat.zero_add]) (show ys[k].length + 1 = (ys[k] ++ [x]).length by rw [List.length_append]; rfl) rfl hky rfl rfl (Nat.zero_le _) (fun _ h => absurd h List.not_mem_nil)
      ⟨rfl, rfl, rfl, rfl, rfl, rfl, rfl, rfl, rfl, rfl, rfl, rfl, congrArg (fun x => some (SV.v (.i .i64) x)) w3, rfl, trivial⟩
    ·have hk2 : k = w := by have h' : ¬ (k : Int) < (row.length : Int) := of_decide_eq_false h; omega
     refine ⟨(i + 1, ys), ⟨by show i + 1 ≤ m.length; omega, ?_⟩, by show m.length - (i + 1) < m.length - i; omega, ?_⟩
     ·show ys = trD z w (m.take (i + 1))
      rw [htk, hys, hk2, ZtD]
     ·exact Zbw ⟨rfl, rfl, rfl, congrArg (fun x => some (SV.v (.i .i64) x)) w2, trivial⟩
   ·exact Zbw ⟨rfl, rfl, rfl, rfl, rfl, rfl, rfl, trivial⟩
  ·have hi2 : i = m.length := by have h' : ¬ (i : Int) < (m.length : Int) := of_decide_eq_false h; omega
   have hxm : xs = trD z w m := by rw [hxs, hi2, List.take_length]
   have hxl : w = xs.length := by rw [hxm, trD, List.length_map, List.length_range]
   have hfin : ZgW (.many (.l qct) (Zbj 1 xs) true :: ([] ++ (ZbJ qct xs ++ []))) (37 + 3) (.ref 0 0 w none) (fun V => V = SV.v (.l (.l qct)) (trD z w m)) := Znc rfl hxl (by rw [hxm])
   exact hfin
 ·exact Zn7 rfl (Nat.zero_le _) ⟨rfl, rfl, rfl, rfl, rfl, rfl, rfl, rfl, trivial⟩
end Go.Proofs.YtnfgnkbgajhhbaaGreatDoor
