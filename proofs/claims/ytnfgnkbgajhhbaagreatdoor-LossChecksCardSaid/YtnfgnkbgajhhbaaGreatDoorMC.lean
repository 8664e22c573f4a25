/-
  slices.Clone of texts; is a text too long.
-/
import Derived.Test.YtnfgnkbgajhhbaaGreatDoorQ9
import Derived.Test.YtnfgnkbgajhhbaaGreatDoorDm
import Derived.Test.YtnfgnkbgajhhbaaGreatDoorQA
set_option linter.constructorNameAsVariable false
set_option linter.unusedSimpArgs false
set_option linter.unusedVariables false
namespace Go.Proofs.YtnfgnkbgajhhbaaGreatDoor
open Go.Am Go.Tx Dv Go.Lib
set_option maxRecDepth 100000
theorem Clone_i (l : List (List UInt8)) (hl : l.length ≤ 8796093021952) : ImpOK Tryz.prog hints 37 [.v (.l .s) l] (fun V hp sf => V = .ref 0 0 l.length none ∧ hp = [.row .s l true] ∧ sf = true) := by
  refine imp_rule (fn := Tryz.f37) (code := bodyOf Tryz.f37) tys_ok (by kernel_rfl) Tryz.func37 (by kernel_rfl) (Nat.le_of_ble_eq_true (by kernel_rfl)) ?_
  refine And.intro (fun h => And.intro (fun _ => ?_) (fun h => nomatch h)) (And.intro (fun h => nomatch h) (fun _ => ?_))
  · subst h
    refine ⟨.ref 0 0 0 none, [.row .s [] true], ?_, rfl, rfl, rfl, rfl⟩
    refine ent_of rfl rfl ?_ ?_
    · exact ⟨⟨rfl, rfl, rfl⟩, trivial⟩
    · exact ⟨rfl, trivial⟩
  · cases l with
    | nil =>
      refine And.intro (Nat.zero_le _) ?_
      refine ⟨.ref 0 0 0 none, [.row .s [] true], ?_, rfl, rfl, rfl, rfl⟩
      refine ent_of rfl rfl ?_ ?_
      · exact ⟨⟨rfl, rfl, rfl⟩, trivial⟩
      · exact ⟨⟨rfl, fun _ => rfl⟩, trivial⟩
    | cons x r =>
      refine And.intro (Nat.zero_le _) ?_
      refine And.intro (show (0 + (r.length + 1)) * 16 ≤ 140737488355328 by rw [List.length_cons] at hl; omega) ?_
      refine ⟨.ref 0 0 (r.length + 1) none, [.row .s (x :: r) true], ?_, rfl, rfl, rfl, rfl⟩
      refine ent_of rfl rfl ?_ ?_
      · have e1 : r.length + 1 = 0 + (r.length + 1) := (Nat.zero_add _).symm
        exact ⟨⟨rfl, e1, e1⟩, trivial⟩
      · exact ⟨⟨rfl, fun _ => rfl⟩, trivial⟩
theorem cloL_t (s : List UInt8) : PureOK Tryz.prog hints 38 [.v .s s] (fun V => V = .v .b (decide ((12 : Int) < (s.length : Int)))) := by
  refine pure_rule (fn := Tryz.f38) (code := bodyOf Tryz.f38) tys_ok (by kernel_rfl) rfl Tryz.func38 (by kernel_rfl) (Nat.le_of_ble_eq_true (by kernel_rfl)) ?_
  rfl
set_option maxHeartbeats 4000000 in
theorem indexL_t (l : List (List UInt8)) (hl : l.length ≤ 8796093021954) : PureOK Tryz.prog hints 81 [.v (.l .s) l, .func 38 [] []] (fun V => ∃ k : Int, V = .v (.i .i64) k ∧ (longL 12 l = true → 0 ≤ k) ∧ (longL 12 l = false → k < 0)) := by
  refine pure_rule (fn := Tryz.f81) (code := bodyOf Tryz.f81) tys_ok (by kernel_rfl) rfl Tryz.func81 (by kernel_rfl) (Nat.le_of_ble_eq_true (by kernel_rfl)) ?_
  refine loop_wp tys_ok rfl (fun (i : Nat) => [(0, .v (.l .s) l), (1, .func 38 [] []), (7, .v (.i .i64) (l.length : Int)), (8, .v (.i .i64) (i : Int))]) (fun _ => [])
    (fun i => i ≤ l.length ∧ longL 12 (l.drop i) = longL 12 l) (fun i => l.length - i) ?_ 0 ?_ ?_
  · rintro i ⟨hi, he⟩
    refine And.intro (fun h => ?_) (fun h => ?_)
    · have hlt : i < l.length := by have h' : (i : Int) < (l.length : Int) := of_decide_eq_true h; omega
      obtain ⟨s, hs⟩ : ∃ s, l[i] = s := ⟨_, rfl⟩
      have gs : l[(i : Int).toNat]? = some s := by rw [Int.toNat_natCast, List.getElem?_eq_getElem hlt, hs]
      rw [List.drop_eq_getElem_cons hlt, hs, longL] at he
      refine ⟨s, Int.natCast_nonneg i, gs, ?_⟩
      refine (cloL_t s).mono ?_
      rintro _ rfl
      refine And.intro (fun h2 => ?_) (fun h2 => ?_)
      · have h2' : decide ((12 : Int) < (s.length : Int)) = true := h2
        rw [h2'] at he
        refine ⟨(i : Int), rfl, fun _ => Int.natCast_nonneg i, fun h3 => ?_⟩
        rw [← he] at h3
        cases h3
      · have h2' : decide ((12 : Int) < (s.length : Int)) = false := h2
        rw [h2'] at he
        have wi : IntKind.i64.wrap ((i : Int) + 1) = ((i + 1 : Nat) : Int) := wrap64 (by omega) (by omega)
        refine ⟨i + 1, ⟨hlt, he⟩, by show l.length - (i + 1) < l.length - i; omega, ?_⟩
        refine ent_of rfl rfl ?_ ?_
        · exact ⟨rfl, ⟨rfl, trivial, trivial⟩, rfl, wi.symm, trivial⟩
        · exact trivial
    · have hi2 : i = l.length := by have h' : ¬ (i : Int) < (l.length : Int) := of_decide_eq_false h; omega
      rw [List.drop_of_length_le (by omega)] at he
      refine ⟨-1, rfl, fun h3 => ?_, fun _ => by decide⟩
      rw [← he] at h3
      cases h3
  · exact ⟨Nat.zero_le _, rfl⟩
  · refine ent_of rfl rfl ?_ ?_
    · exact ⟨rfl, ⟨rfl, trivial, trivial⟩, rfl, rfl, trivial⟩
    · exact trivial
theorem containsL_t (l : List (List UInt8)) (hl : l.length ≤ 8796093021954) : PureOK Tryz.prog hints 36 [.v (.l .s) l, .func 38 [] []] (fun V => V = .v .b (longL 12 l)) := by
  refine pure_rule (fn := Tryz.f36) (code := bodyOf Tryz.f36) tys_ok (by kernel_rfl) rfl Tryz.func36 (by kernel_rfl) (Nat.le_of_ble_eq_true (by kernel_rfl)) ?_
  refine (indexL_t l hl).mono ?_
  rintro _ ⟨k, rfl, h1, h2⟩
  refine congrArg (SV.v .b) ?_
  cases hb : longL 12 l with
  | true => exact decide_eq_true (h1 hb)
  | false => exact decide_eq_false (by have := h2 hb; omega)
end Go.Proofs.YtnfgnkbgajhhbaaGreatDoor