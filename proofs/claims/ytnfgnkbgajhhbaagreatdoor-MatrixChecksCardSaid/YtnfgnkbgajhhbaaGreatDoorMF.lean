/-
  lossFact: run by the kernel.
-/
import Derived.Test.YtnfgnkbgajhhbaaGreatDoorW0
import Derived.Test.YtnfgnkbgajhhbaaGreatDoorTx9
import Derived.Test.YtnfgnkbgajhhbaaGreatDoorAmC
import Derived.Test.YtnfgnkbgajhhbaaGreatDoorM3
import Derived.Test.YtnfgnkbgajhhbaaGreatDoorM4
import Derived.Test.YtnfgnkbgajhhbaaGreatDoorQ9
set_option linter.constructorNameAsVariable false
set_option linter.unusedSimpArgs false
set_option linter.unusedVariables false
namespace Go.Proofs.YtnfgnkbgajhhbaaGreatDoor
open Go.Am Go.Tx
end Go.Proofs.YtnfgnkbgajhhbaaGreatDoor

/-
  loss.Exact, loss.Total; LossTotals.
-/
set_option linter.unusedSimpArgs false
set_option linter.unusedVariables false
namespace Go.Proofs.YtnfgnkbgajhhbaaGreatDoor
open Go.Am Go.Tx Dv Go.Lib
set_option maxRecDepth 100000
theorem all_rat : ∀ {l : List (List UInt8)}, (∀ a ∈ l, ratErr a = 0) → ∃ ps : List Rat, l = ps.map ratT ∧ ∀ p ∈ ps, fitQ p = true
  | [], _ => ⟨[], rfl, fun _ h => absurd h List.not_mem_nil⟩
  | a :: l, h => by
    obtain ⟨p, h1, h2⟩ := ratErr_zero (h a List.mem_cons_self)
    obtain ⟨ps, h3, h4⟩ := all_rat (l := l) (fun b hb => h b (List.mem_cons_of_mem _ hb))
    refine ⟨p :: ps, by rw [List.map_cons, ← h1, ← h3], fun q hq => ?_⟩
    rcases List.mem_cons.1 hq with rfl | hq
    · exact h2
    · exact h4 q hq
end Go.Proofs.YtnfgnkbgajhhbaaGreatDoor

/-
  The law LossTotals.
-/
set_option linter.unusedSimpArgs false
set_option linter.unusedVariables false
namespace Go.Proofs.YtnfgnkbgajhhbaaGreatDoor
open Go.Am Go.Tx Dv Go.Lib
set_option maxRecDepth 100000
theorem vast_two (r f : List (List UInt8)) : PureOK Tryz.prog hints 19 [.v (.i .i64) 40, .v (.l (.l (.l .s))) [sub [r, f] 0 2]] (fun V => V = .v .b (vastM 40 [[r, f]])) := by
  refine vast_t 40 [[r, f]] (show 1 ≤ 1000 by decide) fun x hx h1 => ?_
  rcases List.mem_singleton.1 hx with rfl
  refine ⟨show 2 ≤ 1000 by decide, fun v hv h2 => ?_⟩
  omega
theorem vastM_two {r f : List (List UInt8)} (h : vastM 40 [[r, f]] = false) : (∀ a ∈ r, a.length ≤ 12) ∧ (∀ a ∈ f, a.length ≤ 12) := by
  have h1 := (vastM_all h [r, f] List.mem_cons_self).2
  have h2 := vastR_all h1
  refine ⟨fun a ha => ?_, fun a ha => ?_⟩
  · have := (h2 r List.mem_cons_self).2 a ha; omega
  · have := (h2 f (List.mem_cons_of_mem _ List.mem_cons_self)).2 a ha; omega
theorem ratR_dz {q : Rat} {k : Nat} (hk : k ≤ 2000) (h : dz q k) : ratR q = (ratT q, 0) := ratR_fit (dz_fit hk h)
theorem beq_self (s : List UInt8) : (s == s) = true := by simp
theorem dz_zero : dz 0 1 := ⟨dl_le (by decide) (by decide), dl_le (by decide) (by decide)⟩
end Go.Proofs.YtnfgnkbgajhhbaaGreatDoor
