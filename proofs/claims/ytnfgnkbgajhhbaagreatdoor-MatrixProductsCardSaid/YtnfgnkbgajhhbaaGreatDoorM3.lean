/-
 Lists of rational numbers: ParseAll, Dot; first; vast.
-/
import Derived.Test.YtnfgnkbgajhhbaaGreatDoorDm
set_option linter.constructorNameAsVariable false
set_option linter.unusedSimpArgs false
set_option linter.unusedVariables false
namespace Go.Proofs.YtnfgnkbgajhhbaaGreatDoor
open Go.Am Go.Tx Dv Go.Lib
set_option maxRecDepth 100000
set_option maxHeartbeats 4000000 in
theorem ZtH (l : List Int) (hl : l.length ≤ 1000000) : PureOK Tryz.prog Zat 51 [.v (.l (.i .i64)) l] (fun V => V = .v (.i .i64) (Zsk l)) := by
 refine Zai Zaj Tryz.func51 ?_
 refine Zav Zaj rfl (fun (i : Nat) => [(5, .v (.l (.i .i64)) l), (6, .v (.i .i64) (l.length : Int)), (7, .v (.i .i64) (i : Int))]) (fun _ => [])
  (fun i => i ≤ l.length ∧ Zsk (l.drop i) = Zsk l) (fun i => l.length - i) ?_ 0 ?_ ?_
 ·rintro i ⟨hi, he⟩
  refine And.intro (fun h => ?_) (fun h => ?_)
  ·have hlt : i < l.length := by have h' : (i : Int) < (l.length : Int) := of_decide_eq_true h; omega
   obtain ⟨x, hx⟩ : ∃ x, l[i] = x := ⟨_, rfl⟩
   have gx : l[(i : Int).toNat]? = some x := by rw [Int.toNat_natCast, List.getElem?_eq_getElem hlt, hx]
   rw [List.drop_eq_getElem_cons hlt, hx, Zsk] at he
   refine ⟨x, Int.natCast_nonneg i, gx, ?_⟩
   refine And.intro (fun h2 => ?_) (fun h2 => ?_)
   ·have h2' : (!decide (x = 0)) = true := h2
    have hd : decide (x = 0) = false := by cases hd : decide (x = 0) <;> simp [hd] at h2' ⊢
    rw [hd] at he
    exact congrArg (SV.v (.i .i64)) he
   ·have h2' : (!decide (x = 0)) = false := h2
    have hd : decide (x = 0) = true := by cases hd : decide (x = 0) <;> simp [hd] at h2' ⊢
    rw [hd] at he
    have wi : IntKind.i64.wrap ((i : Int) + 1) = ((i + 1 : Nat) : Int) := Zam (by omega) (by omega)
    refine ⟨i + 1, ⟨hlt, he⟩, by show l.length - (i + 1) < l.length - i; omega, ?_⟩
    refine Zan rfl rfl ?_ ?_
    ·exact ⟨rfl, rfl, wi.symm, trivial⟩
    ·exact trivial
  ·have hi2 : i = l.length := by have h' : ¬ (i : Int) < (l.length : Int) := of_decide_eq_false h; omega
   rw [List.drop_of_length_le (by omega)] at he
   exact congrArg (SV.v (.i .i64)) he
 ·exact ⟨Nat.zero_le _, rfl⟩
 ·refine Zan rfl rfl ?_ ?_
  ·exact ⟨rfl, rfl, rfl, trivial⟩
  ·exact trivial
theorem Zls (a b : Int) : PureOK Tryz.prog Zat 51 [.v (.l (.i .i64)) (sub [a, b] 0 2)] (fun V => V = .v (.i .i64) (ZfC a b)) := by
 have h := ZtH [a, b] (show 2 ≤ 1000000 by decide)
 rw [Znw] at h
 exact h
set_option maxHeartbeats 4000000 in
theorem Zti (l : List Int) (hl : l.length ≤ 1000000) : PureOK Tryz.prog Zat 17 [.v (.l (.i .i64)) l] (fun V => V = .v (.i .i64) (Zsk l)) := by
 refine Zai Zaj Tryz.func17 ?_
 refine Zav Zaj rfl (fun (i : Nat) => [(5, .v (.l (.i .i64)) l), (6, .v (.i .i64) (l.length : Int)), (7, .v (.i .i64) (i : Int))]) (fun _ => [])
  (fun i => i ≤ l.length ∧ Zsk (l.drop i) = Zsk l) (fun i => l.length - i) ?_ 0 ?_ ?_
 ·rintro i ⟨hi, he⟩
  refine And.intro (fun h => ?_) (fun h => ?_)
  ·have hlt : i < l.length := by have h' : (i : Int) < (l.length : Int) := of_decide_eq_true h; omega
   obtain ⟨x, hx⟩ : ∃ x, l[i] = x := ⟨_, rfl⟩
   have gx : l[(i : Int).toNat]? = some x := by rw [Int.toNat_natCast, List.getElem?_eq_getElem hlt, hx]
   rw [List.drop_eq_getElem_cons hlt, hx, Zsk] at he
   refine ⟨x, Int.natCast_nonneg i, gx, ?_⟩
   refine And.intro (fun h2 => ?_) (fun h2 => ?_)
   ·have h2' : (!decide (x = 0)) = true := h2
    have hd : decide (x = 0) = false := by cases hd : decide (x = 0) <;> simp [hd] at h2' ⊢
    rw [hd] at he
    exact congrArg (SV.v (.i .i64)) he
   ·have h2' : (!decide (x = 0)) = false := h2
    have hd : decide (x = 0) = true := by cases hd : decide (x = 0) <;> simp [hd] at h2' ⊢
    rw [hd] at he
    have wi : IntKind.i64.wrap ((i : Int) + 1) = ((i + 1 : Nat) : Int) := Zam (by omega) (by omega)
    refine ⟨i + 1, ⟨hlt, he⟩, by show l.length - (i + 1) < l.length - i; omega, ?_⟩
    refine Zan rfl rfl ?_ ?_
    ·exact ⟨rfl, rfl, wi.symm, trivial⟩
    ·exact trivial
  ·have hi2 : i = l.length := by have h' : ¬ (i : Int) < (l.length : Int) := of_decide_eq_false h; omega
   rw [List.drop_of_length_le (by omega)] at he
   exact congrArg (SV.v (.i .i64)) he
 ·exact ⟨Nat.zero_le _, rfl⟩
 ·refine Zan rfl rfl ?_ ?_
  ·exact ⟨rfl, rfl, rfl, trivial⟩
  ·exact trivial
theorem ZfE (a b : Int) : PureOK Tryz.prog Zat 17 [.v (.l (.i .i64)) (sub [a, b] 0 2)] (fun V => V = .v (.i .i64) (ZfC a b)) := by
 have h := Zti [a, b] (show 2 ≤ 1000000 by decide)
 rw [Znw] at h
 exact h
theorem Zrm (q : Rat) : PureOK Tryz.prog Zat 98 [QR q] (fun V => V = .v (.i .i64) q.num.sign) := by
 refine Zai Zaj Tryz.func98 ?_
 refine And.intro rfl ?_
 refine (ZuB q.num).mono ?_
 rintro _ rfl
 rfl
set_option maxHeartbeats 4000000 in
theorem ZiV (ps : List Rat) (hl : ps.length ≤ 1000000) (hf : ∀ p ∈ ps, ZgG p = true) : PureOK Tryz.prog Zat 57 [.v (.l .s) (ps.map ZaK)] (fun V => V = QL ps) := by
 refine Zai Zaj Tryz.func57 ?_
 have hll : (ps.map ZaK).length = ps.length := List.length_map _
 have hg : ∀ i (h : i < ps.length), (ps.map ZaK)[i]? = some (ZaK ps[i]) := fun i h => by
  rw [List.getElem?_map, List.getElem?_eq_getElem h]
  rfl
 obtain ⟨l, hl0⟩ : ∃ l, ps.map ZaK = l := ⟨_, rfl⟩
 rw [hl0] at hll hg ⊢
 refine And.intro (show 0 ≤ (l.length : Int) ∧ (l.length : Int) ≤ (l.length : Int) ∧ (64 : Int) * (l.length : Int) ≤ 281474976710656 ∧ (l.length : Int) < 9223372036854775808 by omega) ?_
 refine Zav Zaj rfl (fun (t : Nat × List qct.D) => [(3, .ref 0 0 ps.length none), (9, .v (.l .s) l), (10, .v (.i .i64) (l.length : Int)), (11, .v (.i .i64) (t.1 : Int))]) (fun t => [.row qct t.2 true])
  (fun t => t.1 ≤ ps.length ∧ t.2.length = ps.length ∧ t.2.take t.1 = (ps.map Zbs).take t.1) (fun t => ps.length - t.1) ?_ (0, List.replicate ps.length qct.z) ?_ ?_
 ·rintro ⟨i, out⟩ ⟨hi, hlen, hval⟩
  simp only at hi hlen hval
  refine And.intro (fun h => ?_) (fun h => ?_)
  ·have hlt : i < ps.length := by have h' : (i : Int) < (l.length : Int) := of_decide_eq_true h; omega
   have gx : l[(i : Int).toNat]? = some (ZaK ps[i]) := by rw [Int.toNat_natCast]; exact hg i hlt
   have hfx := hf ps[i] (List.getElem_mem hlt)
   have ho : i < out.length := by omega
   have wi : IntKind.i64.wrap ((i : Int) + 1) = ((i + 1 : Nat) : Int) := Zam (by omega) (by omega)
   have hq := ZtJ (ps := ps) hlt
   obtain ⟨x, hx⟩ : ∃ x, ps[i] = x := ⟨_, rfl⟩
   rw [hx] at gx hfx hq
   refine ⟨ZaK x, Int.natCast_nonneg i, gx, ?_⟩
   refine (Zvc x hfx).mono ?_
   rintro _ rfl
   refine And.intro ⟨Int.natCast_nonneg i, by show (i : Int) < ((ps.length : Nat) : Int); omega⟩ ?_
   refine Exists.intro (out[i]) (And.intro (by simp) ?_)
   refine ⟨(i + 1, out.set i (Zbs x)), ⟨hlt, by show (out.set _ _).length = _; simpa using hlen, ?_⟩, by show ps.length - (i + 1) < ps.length - i; omega, ?_⟩
   ·show (out.set i (Zbs x)).take (i + 1) = (ps.map Zbs).take (i + 1)
    have h1 : (out.set i (Zbs x)).take (i + 1) = out.take i ++ [Zbs x] := by
     rw [List.take_succ_eq_append_getElem (by simpa using ho), List.getElem_set_self, List.take_set_of_le (Nat.le_refl _)]
    have h2 : (ps.map Zbs).take (i + 1) = (ps.map Zbs).take i ++ [Zbs x] := by
     have hm : i < (ps.map Zbs).length := by simpa using hlt
     rw [List.take_succ_eq_append_getElem hm]
     have : (ps.map Zbs)[i] = Zbs x := by rw [List.getElem?_eq_getElem hm] at hq; exact Option.some.inj hq
     rw [this]
    rw [h1, h2, hval]
   ·have er : out.set i (Zbs x) = out.set (0 + (i : Int).toNat) (Zbs x) := by rw [Int.toNat_natCast, Nat.zero_add]
    refine Zan rfl rfl ?_ ?_
    ·exact ⟨⟨rfl, rfl, rfl⟩, rfl, rfl, wi.symm, trivial⟩
    ·exact ⟨⟨er, fun _ => rfl⟩, trivial⟩
  ·have hi2 : i = ps.length := by have h' : ¬ (i : Int) < (l.length : Int) := of_decide_eq_false h; omega
   have ho : out = ps.map Zbs := by
    rw [hi2, List.take_of_length_le (by omega), List.take_of_length_le (by simp)] at hval
    exact hval
   refine ⟨by show 0 + ps.length ≤ out.length; omega, ?_⟩
   show SV.v (.l qct) (sub out 0 ps.length) = SV.v (.l qct) (ps.map Zbs)
   rw [ho, sub, List.drop_zero, List.take_of_length_le (by simp)]
 ·exact ⟨Nat.zero_le _, by simp, by simp⟩
 ·have e1 : ps.length = ((l.length : Nat) : Int).toNat := by omega
  refine Zan rfl rfl ?_ ?_
  ·exact ⟨⟨rfl, e1, e1⟩, rfl, rfl, rfl, trivial⟩
  ·exact ⟨⟨by rw [e1]; rfl, fun _ => rfl⟩, trivial⟩
def Zyd (S : Rat) : List SM := [.cell [.v .b false, .nils, .v .b false, .nils] true, .cell [.v .b (decide (S.num < 0)), ZaW (wOf S.num.natAbs), .v .b (decide ((S.den : Int) < 0)), ZaW (wOf (S.den : Int).natAbs)] true]
theorem Zjp (qs : List Rat) : ZbU [] qs = 0 := by cases qs <;> rfl
theorem ZkE {ps qs : List Rat} {i : Nat} (h1 : i < ps.length) (h2 : i < qs.length) : ZbU (ps.drop i) (qs.drop i) = ps[i] * qs[i] + ZbU (ps.drop (i + 1)) (qs.drop (i + 1)) := by
 rw [List.drop_eq_getElem_cons h1, List.drop_eq_getElem_cons h2, ZbU]
set_option maxHeartbeats 8000000 in
theorem Zuc (ps qs : List Rat) (hlen : ps.length = qs.length) (h40 : ps.length ≤ 40) (hp : ∀ p ∈ ps, ZgG p = true) (hq : ∀ q ∈ qs, ZgG q = true) : PureOK Tryz.prog Zat 55 [QL ps, QL qs] (fun V => V = QR (ZbU ps qs)) := by
 refine Zai Zaj Tryz.func55 ?_
 have hll : (ps.map Zbs).length = ps.length := List.length_map _
 refine (ZuO 0 (by decide) (by decide)).mono ?_
 rintro _ rfl
 refine And.intro rfl ?_
 refine Zav Zaj rfl (fun (t : Nat × Rat) => [(0, QL ps), (1, QL qs), (4, .ptr 0 0 0), (5, .ptr 1 0 0), (9, .v (.i .i64) ((ps.map Zbs).length : Int)), (10, .v (.i .i64) (t.1 : Int))]) (fun t => Zyd t.2)
  (fun t => t.1 ≤ ps.length ∧ szQ t.2 (417 * t.1 + 1) ∧ t.2 + ZbU (ps.drop t.1) (qs.drop t.1) = ZbU ps qs) (fun t => ps.length - t.1) ?_ (0, 0) ?_ ?_
 ·rintro ⟨i, S⟩ ⟨hi, hS, he⟩
  simp only at hi hS he
  refine And.intro (fun h => ?_) (fun h => ?_)
  ·have hlt : i < ps.length := by have h' : (i : Int) < ((ps.map Zbs).length : Int) := of_decide_eq_true h; omega
   have hlt2 : i < qs.length := by omega
   rw [ZkE hlt hlt2] at he
   have gp := ZtJ (ps := ps) hlt
   have gq := ZtJ (ps := qs) hlt2
   have hfp := hp ps[i] (List.getElem_mem hlt)
   have hfq := hq qs[i] (List.getElem_mem hlt2)
   obtain ⟨p, hp0⟩ : ∃ x, ps[i] = x := ⟨_, rfl⟩
   obtain ⟨q, hq0⟩ : ∃ x, qs[i] = x := ⟨_, rfl⟩
   rw [hp0] at gp hfp he
   rw [hq0] at gq hfq he
   have gp : (ps.map Zbs)[(i : Int).toNat]? = some (Zbs p) := by rw [Int.toNat_natCast]; exact gp
   have gq : (qs.map Zbs)[(i : Int).toNat]? = some (Zbs q) := by rw [Int.toNat_natCast]; exact gq
   have sp := Zrm p
   have sq := Zrm q
   have wi : IntKind.i64.wrap ((i : Int) + 1) = ((i + 1 : Nat) : Int) := Zam (by omega) (by omega)
   have same : p * q = 0 → ∃ t : Nat × Rat, t = (i + 1, S) ∧ (t.1 ≤ ps.length ∧ szQ t.2 (417 * t.1 + 1) ∧ t.2 + ZbU (ps.drop t.1) (qs.drop t.1) = ZbU ps qs) := fun hz => by
    refine ⟨_, rfl, hlt, Zjq (by show 417 * i + 1 ≤ 417 * (i + 1) + 1; omega) hS, ?_⟩
    rw [hz, Rat.zero_add] at he
    exact he
   have sz0 : ∀ x : Rat, x.num.sign = 0 → x = 0 := fun x hx => Rat.num_eq_zero.1 (Int.sign_eq_zero_iff_zero.1 hx)
   obtain ⟨sgp, esp⟩ : ∃ x, p.num.sign = x := ⟨_, rfl⟩
   obtain ⟨sgq, esq⟩ : ∃ x, q.num.sign = x := ⟨_, rfl⟩
   rw [esp] at sp
   rw [esq] at sq
   repeat (first | refine Zak ?_ | refine Zaf ?_ | refine Zac ?_)
   first | refine Zab (Zaa (id := 4) rfl ?_) | refine Zab (Zab (Zaa (id := 4) rfl ?_)) | refine Zaa (id := 4) rfl ?_ | refine Zab (Zad rfl (Zab (Zaa (id := 4) rfl ?_))) | refine Zad rfl (Zab (Zaa (id := 4) rfl ?_))
   refine Zah rfl (fun _ => rfl) rfl rfl ?_
   refine Zah rfl (fun _ => rfl) rfl rfl ?_
   refine Zal ?_
   repeat (first | refine Zaf ?_ | refine Zac ?_)
   cases b1 : decide (sgp = 0) with
   | true =>
    have n1 : (!decide (sgp = 0)) = false := by rw [b1]; rfl
    obtain ⟨t, ht, hinv⟩ := same (by rw [sz0 p (esp.trans (of_decide_eq_true b1)), Rat.zero_mul])
    subst ht
    repeat (first | refine Zak ?_ | refine Zaf ?_ | refine Zac ?_)
    first | refine Zab (Zaa (id := 5) rfl ?_) | refine Zab (Zab (Zaa (id := 5) rfl ?_)) | refine Zaa (id := 5) rfl ?_ | refine Zab (Zad rfl (Zab (Zaa (id := 5) rfl ?_))) | refine Zad rfl (Zab (Zaa (id := 5) rfl ?_))
    refine Zah rfl (fun _ => rfl) rfl rfl ?_
    refine Zah rfl (fun _ => rfl) rfl rfl ?_
    refine Zmk rfl (fun _ => rfl) (Int.natCast_nonneg i) gp rfl rfl ?_
    refine Zah rfl (fun _ => rfl) rfl rfl ?_
    refine ZbW rfl ((sp).mono ?_)
    rintro _ rfl
    refine ZaG rfl rfl ?_
    refine Zah rfl (fun _ => rfl) rfl rfl ?_
    refine Zah rfl (fun _ => rfl) rfl rfl ?_
    refine Zae rfl rfl rfl n1 rfl rfl ?_
    refine Zae rfl rfl rfl n1 rfl rfl ?_
    refine Zae rfl rfl rfl n1 rfl rfl ?_
    refine Zae rfl rfl rfl n1 rfl rfl ?_
    refine Zae rfl rfl rfl n1 rfl rfl ?_
    refine Zae rfl rfl rfl n1 rfl rfl ?_
    refine Zax rfl rfl rfl n1 rfl rfl rfl ?_
    refine Zal ?_
    repeat (first | refine Zaf ?_ | refine Zac ?_)
    refine And.intro (fun h => by cases h) (fun _ => ?_)
    refine ⟨(i + 1, S), hinv, by show ps.length - (i + 1) < ps.length - i; omega, ?_⟩
    refine Zan rfl rfl ?_ ?_
    ·exact ⟨rfl, rfl, ⟨rfl, rfl⟩, ⟨rfl, rfl⟩, rfl, wi.symm, trivial⟩
    ·exact ⟨⟨⟨rfl, trivial, rfl, trivial, trivial⟩, fun _ => rfl⟩, ⟨⟨rfl, rfl, rfl, rfl, trivial⟩, fun _ => rfl⟩, trivial⟩
   | false =>
   have n1 : (!decide (sgp = 0)) = true := by rw [b1]; rfl
   cases b2 : decide (sgq = 0) with
   | true =>
    have n2 : (!decide (sgq = 0)) = false := by rw [b2]; rfl
    obtain ⟨t, ht, hinv⟩ := same (by rw [sz0 q (esq.trans (of_decide_eq_true b2)), Rat.mul_zero])
    subst ht
    repeat (first | refine Zak ?_ | refine Zaf ?_ | refine Zac ?_)
    first | refine Zab (Zaa (id := 5) rfl ?_) | refine Zab (Zab (Zaa (id := 5) rfl ?_)) | refine Zaa (id := 5) rfl ?_ | refine Zab (Zad rfl (Zab (Zaa (id := 5) rfl ?_))) | refine Zad rfl (Zab (Zaa (id := 5) rfl ?_))
    refine Zah rfl (fun _ => rfl) rfl rfl ?_
    refine Zah rfl (fun _ => rfl) rfl rfl ?_
    refine Zmk rfl (fun _ => rfl) (Int.natCast_nonneg i) gp rfl rfl ?_
    refine Zah rfl (fun _ => rfl) rfl rfl ?_
    refine ZbW rfl ((sp).mono ?_)
    rintro _ rfl
    refine ZaG rfl rfl ?_
    refine Zah rfl (fun _ => rfl) rfl rfl ?_
    refine Zah rfl (fun _ => rfl) rfl rfl ?_
    refine Zag rfl rfl rfl n1 (fun _ => rfl) rfl rfl ?_
    refine Zag rfl rfl rfl n1 (fun _ => rfl) rfl rfl ?_
    refine Zfn rfl rfl rfl n1 (fun _ => rfl) (Int.natCast_nonneg i) gq rfl rfl ?_
    refine Zag rfl rfl rfl n1 (fun _ => rfl) rfl rfl ?_
    refine Za8 rfl rfl rfl n1 ((sq).mono ?_)
    rintro _ rfl
    refine ZaG rfl rfl ?_
    refine Zag rfl rfl rfl n1 (fun _ => rfl) rfl rfl ?_
    refine ZaB rfl rfl rfl n1 rfl rfl rfl ?_
    refine Zal ?_
    repeat (first | refine Zaf ?_ | refine Zac ?_)
    refine And.intro (fun h => by first | (cases h; done) | exact (nf h n2).elim) (fun _ => ?_)
    refine ⟨(i + 1, S), hinv, by show ps.length - (i + 1) < ps.length - i; omega, ?_⟩
    refine Zan rfl rfl ?_ ?_
    ·exact ⟨rfl, rfl, ⟨rfl, rfl⟩, ⟨rfl, rfl⟩, rfl, wi.symm, trivial⟩
    ·exact ⟨⟨⟨rfl, trivial, rfl, trivial, trivial⟩, fun _ => rfl⟩, ⟨⟨rfl, rfl, rfl, rfl, trivial⟩, fun _ => rfl⟩, trivial⟩
   | false =>
    have n2 : (!decide (sgq = 0)) = true := by rw [b2]; rfl
    have szp := ZuI hfp
    have szq := ZuI hfq
    have szm := ZwH szp szq
    have sza := Zw8 hS szm
    repeat (first | refine Zak ?_ | refine Zaf ?_ | refine Zac ?_)
    first | refine Zab (Zaa (id := 5) rfl ?_) | refine Zab (Zab (Zaa (id := 5) rfl ?_)) | refine Zaa (id := 5) rfl ?_ | refine Zab (Zad rfl (Zab (Zaa (id := 5) rfl ?_))) | refine Zad rfl (Zab (Zaa (id := 5) rfl ?_))
    refine Zah rfl (fun _ => rfl) rfl rfl ?_
    refine Zah rfl (fun _ => rfl) rfl rfl ?_
    refine Zmk rfl (fun _ => rfl) (Int.natCast_nonneg i) gp rfl rfl ?_
    refine Zah rfl (fun _ => rfl) rfl rfl ?_
    refine ZbW rfl ((sp).mono ?_)
    rintro _ rfl
    refine ZaG rfl rfl ?_
    refine Zah rfl (fun _ => rfl) rfl rfl ?_
    refine Zah rfl (fun _ => rfl) rfl rfl ?_
    refine Zag rfl rfl rfl n1 (fun _ => rfl) rfl rfl ?_
    refine Zag rfl rfl rfl n1 (fun _ => rfl) rfl rfl ?_
    refine Zfn rfl rfl rfl n1 (fun _ => rfl) (Int.natCast_nonneg i) gq rfl rfl ?_
    refine Zag rfl rfl rfl n1 (fun _ => rfl) rfl rfl ?_
    refine Za8 rfl rfl rfl n1 ((sq).mono ?_)
    rintro _ rfl
    refine ZaG rfl rfl ?_
    refine Zag rfl rfl rfl n1 (fun _ => rfl) rfl rfl ?_
    refine ZaB rfl rfl rfl n1 rfl rfl rfl ?_
    refine Zal ?_
    repeat (first | refine Zaf ?_ | refine Zac ?_)
    refine And.intro (fun _ => ?_) (fun h => by first | (cases h; done) | exact (nf n2 h).elim)
    refine And.intro rfl ?_
    refine ⟨Zbs p, Int.natCast_nonneg i, gp, ?_⟩
    refine ⟨Zbs q, Int.natCast_nonneg i, gq, ?_⟩
    refine (Zxh p q (by decide : 208 ≤ 100000) szp szq).mono ?_
    rintro _ rfl
    refine (Zwk S (p * q) (k := 17000) (by decide) (Zjq (by omega) hS) (Zjq (by decide) szm)).mono ?_
    rintro _ rfl
    refine And.intro rfl ?_
    refine ⟨(i + 1, S + p * q), ⟨hlt, Zjq (by show 417 * i + 1 + (208 + 208) + 1 ≤ 417 * (i + 1) + 1; omega) sza, by rw [← he, Rat.add_assoc]⟩, by show ps.length - (i + 1) < ps.length - i; omega, ?_⟩
    refine Zan rfl rfl ?_ ?_
    ·exact ⟨rfl, rfl, ⟨rfl, rfl⟩, ⟨rfl, rfl⟩, rfl, wi.symm, trivial⟩
    ·exact ⟨⟨⟨rfl, trivial, rfl, trivial, trivial⟩, fun _ => rfl⟩, ⟨⟨rfl, rfl, rfl, rfl, trivial⟩, fun _ => rfl⟩, trivial⟩
  ·have hi2 : i = ps.length := by have h' : ¬ (i : Int) < ((ps.map Zbs).length : Int) := of_decide_eq_false h; omega
   rw [hi2, List.drop_length, Zjp, Rat.add_zero] at he
   rw [← he]
   refine And.intro rfl ?_
   refine And.intro rfl ?_
   exact ⟨rfl, rfl⟩
 ·refine ⟨Nat.zero_le _, ZuT, ?_⟩
  show (0 : Rat) + ZbU (ps.drop 0) (qs.drop 0) = _
  rw [Rat.zero_add]
  rfl
 ·refine Zan rfl rfl ?_ ?_
  ·exact ⟨rfl, rfl, ⟨rfl, rfl⟩, ⟨rfl, rfl⟩, rfl, rfl, trivial⟩
  ·exact ⟨⟨⟨rfl, trivial, rfl, trivial, trivial⟩, fun _ => rfl⟩, ⟨⟨rfl, rfl, rfl, rfl, trivial⟩, fun _ => rfl⟩, trivial⟩
end Go.Proofs.YtnfgnkbgajhhbaaGreatDoor
