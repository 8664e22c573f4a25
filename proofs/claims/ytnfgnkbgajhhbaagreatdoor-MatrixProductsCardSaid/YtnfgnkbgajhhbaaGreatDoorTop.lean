/-
 What all laws of the seat share: from a walk's result to the given statement.
-/
import Derived.Test.YtnfgnkbgajhhbaaGreatDoorP6
import Derived.Lay
import Derived.LaidSub
set_option linter.constructorNameAsVariable false
set_option linter.unusedSimpArgs false
set_option linter.unusedVariables false
namespace Go.Proofs.YtnfgnkbgajhhbaaGreatDoor
open Go.Am Go.Tx
set_option maxRecDepth 100000
theorem Zyi : ownKnob Tryz.prog.godebug = none := by kernel_rfl
theorem ZtZ : laidOutB Tryz.prog = true := by kernel_rfl
abbrev Zes : List (String × DataW Unit) := Rows.matrixChecksRow.laid
theorem Zvm {W : World} (h : laidMetH Tryz.prog Zes W) : Lib.TabIs Tryz.prog W Zd7 .u64 Lib.pow10Tab := by
 have h1 := laidMetH.filter (fun x => x.1 == Zd7) h
 rw [MakeChecks.laidMetH_plain _ _ _ (by kernel_rfl)] at h1
 exact Lib.tabIs_of_head (rest := []) (g := 1) (t := 202) (e := 154) (n := 20) (by kernel_rfl) (by kernel_rfl) (by kernel_rfl) (by kernel_rfl) (by kernel_rfl) (by kernel_rfl) h1
theorem Zw6 {W : World} (h : laidMetH Tryz.prog Zes W) : natLaid.ok (fun b => b < W.heap.size) W := by
 have ht := Zvm h
 refine ⟨1, by kernel_rfl, ?_, ht⟩
 unfold Lib.TabIs World.var? at ht
 have hg : Tryz.prog.globalNamed Zd7 = some 1 := by kernel_rfl
 rw [hg, Option.bind_some] at ht
 cases hb : W.heap[1]? with
 | none => rw [hb] at ht; simp at ht
 | some o => exact (Array.getElem?_eq_some_iff.1 hb).1
theorem ZoG {n : Nat} {H : List Mem} {v : PV} {b : Bool} (h : exp n H v = some (.bool b)) : v = .bool b := by
 cases n with
 | zero => simp [exp] at h
 | succ n => cases v <;> simp only [exp] at h <;> first | (exact Option.some.inj h) | (cases h; done) | (rename_i a b c d; cases hx : H[a]? with
  | none => rw [hx] at h; cases h
  | some m => cases m <;> rw [hx] at h <;> simp only at h <;> first | (cases h; done) | (split at h <;> simp at h)) | (rename_i a b c; cases hx : H[a]? with
  | none => rw [hx] at h; cases h
  | some m => cases m <;> rw [hx] at h <;> simp only at h <;> first | (cases h; done) | (simp [Option.bind_eq_some_iff] at h)) | (simp [Option.bind_eq_some_iff] at h)
theorem Ztv {f : FuncId} {Vs : List SV} {qs : List PV} (hp : Zat.prim f = none) (h : PureOK Tryz.prog Zat f Vs (fun V => V = .v .b true)) (hr : RL [] Vs qs) : ∃ n H', (Zec Tryz.prog Zat n).rn f qs [] = some (.bool true, H') := by
 obtain ⟨q, V, h1, h2, rfl⟩ := h.out qs hr
 simp only [RV, RR] at h2
 have hq : q = .bool true := by simpa using h2
 subst hq
 unfold Zbk at h1
 rw [hp] at h1
 obtain ⟨⟨v, H'⟩, h3, h4⟩ := Option.bind_eq_some_iff.1 h1
 have hv := ZoG h4
 simp only at hv
 subst hv
 obtain ⟨k, hk⟩ := ZrJ h3
 exact ⟨k, H', hk⟩
theorem Ztf {n : Nat} {p : PV} (hs : ZnU (.slice .str n) p) : ∃ l : List (List UInt8), RV [] (.v (.l .s) l) p ∧ ∀ a ∈ l, a.length ≤ 9223372036854775806 := by
 have h : Zcd (.slice .str n) [p] := hs
 simp only [Zcd] at h
 rcases h with h | ⟨es, h1, _, _, h4⟩
 ·have h1 : p = .nils := by simpa using h
  subst h1
  exact ⟨[], by simp [RV, RR], fun _ ha => absurd ha List.not_mem_nil⟩
 ·have h1 : p = .lst es := by simpa using h1
  subst h1
  have key : ∀ es : List (List PV), (∀ c ∈ es, ∃ s : ByteArray, c = [.str s] ∧ s.size ≤ reachBytes) → ∃ l : List (List UInt8), All2 (RR .s) l es ∧ ∀ a ∈ l, a.length ≤ 9223372036854775806 := by
   intro es
   induction es with
   | nil => intro _; exact ⟨[], trivial, fun _ ha => absurd ha List.not_mem_nil⟩
   | cons c r ih =>
    intro hc
    obtain ⟨s, h1, h2⟩ := hc c List.mem_cons_self
    obtain ⟨l, h3, h4⟩ := ih (fun d hd => hc d (List.mem_cons_of_mem _ hd))
    refine ⟨s.data.toList :: l, ⟨by simp only [RR]; exact h1, h3⟩, fun a ha => ?_⟩
    rcases List.mem_cons.1 ha with rfl | ha
    ·have h5 : s.data.toList.length = s.size := Array.length_toList
     have h6 : reachBytes = 140737488351232 := rfl
     omega
    ·exact h4 a ha
  obtain ⟨l, h5, h6⟩ := key es (by simpa only [Zcd] using h4)
  exact ⟨l, show RR (.l .s) l [.lst es] by simp only [RR]; exact .inr ⟨es, rfl, h5⟩, h6⟩
end Go.Proofs.YtnfgnkbgajhhbaaGreatDoor
/-
 Arguments that are lists of lists of texts; lengths of arguments.
-/
namespace Go.Proofs.YtnfgnkbgajhhbaaGreatDoor
open Go.Am Go.Tx
theorem ZoO {ct : CT} {t : Ty} {good : ct.D → Prop} (hc : ∀ c, Zcd t c → ∃ x : ct.D, RR ct x c ∧ good x) : ∀ {es : List (List PV)}, (∀ c ∈ es, Zcd t c) → ∃ l : List ct.D, All2 (RR ct) l es ∧ (∀ x ∈ l, good x) ∧ l.length = es.length
 | [], _ => ⟨[], trivial, fun _ h => absurd h List.not_mem_nil, rfl⟩
 | c :: es, h => by
  obtain ⟨x, h1, h2⟩ := hc c (h c List.mem_cons_self)
  obtain ⟨l, h3, h4, h5⟩ := ZoO hc (es := es) (fun d hd => h d (List.mem_cons_of_mem _ hd))
  refine ⟨x :: l, ⟨h1, h3⟩, fun y hy => ?_, by rw [List.length_cons, List.length_cons, h5]⟩
  rcases List.mem_cons.1 hy with rfl | hy
  ·exact h2
  ·exact h4 y hy
theorem ZlS {ct : CT} {t : Ty} {good : ct.D → Prop} {n : Nat} (hn : 16 ≤ n) (hc : ∀ c, Zcd t c → ∃ x : ct.D, RR ct x c ∧ good x) : ∀ c, Zcd (.slice t n) c → ∃ l : List ct.D, RR (.l ct) l c ∧ (∀ x ∈ l, good x) ∧ l.length ≤ 8796093021952 := by
 intro c h
 simp only [Zcd] at h
 rcases h with rfl | ⟨es, rfl, _, h3, h4⟩
 ·exact ⟨[], by simp [RR], fun _ h => absurd h List.not_mem_nil, Nat.zero_le _⟩
 ·obtain ⟨l, h5, h6, h7⟩ := ZoO hc h4
  refine ⟨l, by simp only [RR]; exact .inr ⟨es, rfl, h5⟩, h6, ?_⟩
  have e : reachBytes = 140737488351232 := rfl
  have : es.length * 16 ≤ es.length * n := Nat.mul_le_mul_left _ hn
  omega
theorem ZtV (c : List PV) (h : Zcd .str c) : ∃ a : List UInt8, RR .s a c ∧ a.length ≤ 9223372036854775806 := by
 simp only [Zcd] at h
 obtain ⟨s, rfl, h2⟩ := h
 refine ⟨s.data.toList, by simp only [RR], ?_⟩
 have h5 : s.data.toList.length = s.size := Array.length_toList
 have h6 : reachBytes = 140737488351232 := rfl
 omega
theorem ZqE {p : PV} (hs : ZnU (.slice (.slice .str 16) 24) p) : ∃ l : List (List (List UInt8)), RV [] (.v (.l (.l .s)) l) p ∧ ∀ r ∈ l, ∀ a ∈ r, a.length ≤ 9223372036854775806 := by
 obtain ⟨l, h1, h2, _⟩ := ZlS (ct := .l .s) (n := 24) (by decide) (fun c h => by
  obtain ⟨r, h1, h2, _⟩ := ZlS (ct := .s) (n := 16) (Nat.le_refl _) ZtV c h
  exact ⟨r, h1, h2⟩) [p] hs
 exact ⟨l, h1, h2⟩
end Go.Proofs.YtnfgnkbgajhhbaaGreatDoor
