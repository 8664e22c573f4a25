/-
  vast; loss.Exact, loss.Total.
-/
import Derived.Test.YtnfgnkbgajhhbaaGreatDoorQ9
import Derived.Test.YtnfgnkbgajhhbaaGreatDoorDm
import Derived.Test.YtnfgnkbgajhhbaaGreatDoorQA
set_option linter.constructorNameAsVariable false
set_option linter.unusedSimpArgs false
set_option linter.unusedVariables false
namespace Go.Proofs.YtnfgnkbgajhhbaaGreatDoor
open Go.Am Go.Tx Dv Go.Lib
set_option maxRecDepth 100000
theorem cloV_t (s : List UInt8) : PureOK Tryz.prog hints 59 [.v .s s] (fun V => V = .v .b (decide ((12 : Int) < (s.length : Int)))) := by
  refine pure_rule (fn := Tryz.f59) (code := bodyOf Tryz.f59) tys_ok (by kernel_rfl) rfl Tryz.func59 (by kernel_rfl) (Nat.le_of_ble_eq_true (by kernel_rfl)) ?_
  rfl
set_option maxHeartbeats 4000000 in
theorem indexV_t (l : List (List UInt8)) (hl : l.length ≤ 1000) : PureOK Tryz.prog hints 80 [.v (.l .s) l, .func 59 [] []] (fun V => ∃ k : Int, V = .v (.i .i64) k ∧ (longL 12 l = true → 0 ≤ k) ∧ (longL 12 l = false → k < 0)) := by
  refine pure_rule (fn := Tryz.f80) (code := bodyOf Tryz.f80) tys_ok (by kernel_rfl) rfl Tryz.func80 (by kernel_rfl) (Nat.le_of_ble_eq_true (by kernel_rfl)) ?_
  refine loop_wp tys_ok rfl (fun (i : Nat) => [(0, .v (.l .s) l), (1, .func 59 [] []), (7, .v (.i .i64) (l.length : Int)), (8, .v (.i .i64) (i : Int))]) (fun _ => [])
    (fun i => i ≤ l.length ∧ longL 12 (l.drop i) = longL 12 l) (fun i => l.length - i) ?_ 0 ?_ ?_
  · rintro i ⟨hi, he⟩
    refine And.intro (fun h => ?_) (fun h => ?_)
    · have hlt : i < l.length := by have h' : (i : Int) < (l.length : Int) := of_decide_eq_true h; omega
      obtain ⟨s, hs⟩ : ∃ s, l[i] = s := ⟨_, rfl⟩
      have gs : l[(i : Int).toNat]? = some s := by rw [Int.toNat_natCast, List.getElem?_eq_getElem hlt, hs]
      rw [List.drop_eq_getElem_cons hlt, hs, longL] at he
      refine ⟨s, Int.natCast_nonneg i, gs, ?_⟩
      refine (cloV_t s).mono ?_
      rintro _ rfl
      refine And.intro (fun h2 => ?_) (fun h2 => ?_)
      · have h2' : decide ((12 : Int) < (s.length : Int)) = true := h2
        rw [h2'] at he
        refine ⟨(i : Int), rfl, fun _ => Int.natCast_nonneg i, fun h3 => ?_⟩
        rw [← he] at h3
        cases h3
      · have h2' : decide ((12 : Int) < (s.length : Int)) = false := h2
        rw [h2'] at he
        have wi : IntKind.i64.wrap ((i : Int) + 1) = ((i + 1 : Nat) : Int) := wrap64 (by omega) (by omega)
        refine ⟨i + 1, ⟨hlt, he⟩, by show l.length - (i + 1) < l.length - i; omega, ?_⟩
        refine ent_of rfl rfl ?_ ?_
        · exact ⟨rfl, ⟨rfl, trivial, trivial⟩, rfl, wi.symm, trivial⟩
        · exact trivial
    · have hi2 : i = l.length := by have h' : ¬ (i : Int) < (l.length : Int) := of_decide_eq_false h; omega
      rw [List.drop_of_length_le (by omega)] at he
      refine ⟨-1, rfl, fun h3 => ?_, fun _ => by decide⟩
      rw [← he] at h3
      cases h3
  · exact ⟨Nat.zero_le _, rfl⟩
  · refine ent_of rfl rfl ?_ ?_
    · exact ⟨rfl, ⟨rfl, trivial, trivial⟩, rfl, rfl, trivial⟩
    · exact trivial
theorem containsV_t (l : List (List UInt8)) (hl : l.length ≤ 1000) : PureOK Tryz.prog hints 32 [.v (.l .s) l, .func 59 [] []] (fun V => V = .v .b (longL 12 l)) := by
  refine pure_rule (fn := Tryz.f32) (code := bodyOf Tryz.f32) tys_ok (by kernel_rfl) rfl Tryz.func32 (by kernel_rfl) (Nat.le_of_ble_eq_true (by kernel_rfl)) ?_
  refine (indexV_t l hl).mono ?_
  rintro _ ⟨k, rfl, h1, h2⟩
  refine congrArg (SV.v .b) ?_
  cases hb : longL 12 l with
  | true => exact decide_eq_true (h1 hb)
  | false => exact decide_eq_false (by have := h2 hb; omega)
set_option maxHeartbeats 8000000 in
theorem vast_t (n : Int) (ms : List (List (List (List UInt8)))) (hl : ms.length ≤ 1000) (hs : ∀ x ∈ ms, (x.length : Int) ≤ n → x.length ≤ 1000 ∧ ∀ v ∈ x, (v.length : Int) ≤ n → v.length ≤ 1000) : PureOK Tryz.prog hints 19 [.v (.i .i64) n, .v (.l (.l (.l .s))) ms] (fun V => V = .v .b (vastM n ms)) := by
  refine pure_rule (fn := Tryz.f19) (code := bodyOf Tryz.f19) tys_ok (by kernel_rfl) rfl Tryz.func19 (by kernel_rfl) (Nat.le_of_ble_eq_true (by kernel_rfl)) ?_
  refine loop_wp tys_ok rfl (fun (i : Nat) => [(0, .v (.i .i64) n), (9, .v (.l (.l (.l .s))) ms), (10, .v (.i .i64) (ms.length : Int)), (11, .v (.i .i64) (i : Int))]) (fun _ => [])
    (fun i => i ≤ ms.length ∧ vastM n (ms.drop i) = vastM n ms) (fun i => ms.length - i) ?_ 0 ?_ ?_
  · rintro i ⟨hi, he⟩
    refine And.intro (fun h => ?_) (fun h => ?_)
    · have hlt : i < ms.length := by have h' : (i : Int) < (ms.length : Int) := of_decide_eq_true h; omega
      obtain ⟨x, hx⟩ : ∃ x, ms[i] = x := ⟨_, rfl⟩
      have gx : ms[(i : Int).toNat]? = some x := by rw [Int.toNat_natCast, List.getElem?_eq_getElem hlt, hx]
      have hxs := hs x (hx ▸ List.getElem_mem hlt)
      rw [List.drop_eq_getElem_cons hlt, hx, vastM] at he
      have wi : IntKind.i64.wrap ((i : Int) + 1) = ((i + 1 : Nat) : Int) := wrap64 (by omega) (by omega)
      refine ⟨x, Int.natCast_nonneg i, gx, ?_⟩
      refine And.intro (fun h2 => ?_) (fun h2 => ?_)
      · have h2' : decide (n < (x.length : Int)) = true := h2
        rw [h2', Bool.true_or] at he
        exact congrArg (SV.v .b) he
      · have h2' : decide (n < (x.length : Int)) = false := h2
        rw [h2', Bool.false_or] at he
        obtain ⟨hx1, hx2⟩ := hxs (by have := of_decide_eq_false h2'; omega)
        refine loop_wp tys_ok rfl (fun (j : Nat) => [(0, .v (.i .i64) n), (9, .v (.l (.l (.l .s))) ms), (10, .v (.i .i64) (ms.length : Int)), (11, .v (.i .i64) (i : Int)), (19, .v (.l (.l .s)) x), (20, .v (.i .i64) (x.length : Int)), (21, .v (.i .i64) (j : Int))]) (fun _ => [])
          (fun j => j ≤ x.length ∧ vastR n (x.drop j) = vastR n x) (fun j => x.length - j) ?_ 0 ?_ ?_
        · rintro j ⟨hj, hj2⟩
          refine And.intro (fun h => ?_) (fun h => ?_)
          · have hltj : j < x.length := by have h' : (j : Int) < (x.length : Int) := of_decide_eq_true h; omega
            obtain ⟨v, hv⟩ : ∃ v, x[j] = v := ⟨_, rfl⟩
            have gv : x[(j : Int).toNat]? = some v := by rw [Int.toNat_natCast, List.getElem?_eq_getElem hltj, hv]
            have hvs := hx2 v (hv ▸ List.getElem_mem hltj)
            rw [List.drop_eq_getElem_cons hltj, hv, vastR] at hj2
            have wj : IntKind.i64.wrap ((j : Int) + 1) = ((j + 1 : Nat) : Int) := wrap64 (by omega) (by omega)
            refine ⟨v, Int.natCast_nonneg j, gv, ?_⟩
            cases b1 : decide (n < (v.length : Int)) with
            | true =>
              rw [b1, Bool.true_or] at hj2
              rw [← hj2] at he
              repeat (first | refine wpg_skipc ?_ | refine wpg_next ?_ | refine wpg_blkout ?_)
              first | refine wpg_seq (wpg_region (id := 9) rfl ?_) | refine wpg_seq (wpg_seq (wpg_region (id := 9) rfl ?_)) | refine wpg_region (id := 9) rfl ?_ | refine wpg_seq (wpg_block rfl (wpg_seq (wpg_region (id := 9) rfl ?_))) | refine wpg_block rfl (wpg_seq (wpg_region (id := 9) rfl ?_))
              refine wpg_v rfl (fun _ => rfl) rfl rfl ?_
              refine wpg_v rfl (fun _ => rfl) rfl rfl ?_
              refine wpg_v rfl (fun _ => rfl) rfl rfl ?_
              refine wpg_v rfl (fun _ => rfl) rfl rfl ?_
              refine wpg_v rfl (fun _ => rfl) rfl rfl ?_
              refine wpg_skip rfl rfl rfl b1 rfl rfl ?_
              refine wpg_skip rfl rfl rfl b1 rfl rfl ?_
              refine wpg_pt rfl rfl rfl b1 rfl rfl rfl ?_
              refine wpg_nil ?_
              repeat (first | refine wpg_next ?_ | refine wpg_blkout ?_)
              refine And.intro (fun _ => ?_) (fun h => by first | (cases h; done) | exact (nf b1 h).elim)
              exact congrArg (SV.v .b) he
            | false =>
              have hcon := containsV_t v (hvs (by have := of_decide_eq_false b1; omega))
              rw [b1, Bool.false_or] at hj2
              cases b2 : longL 12 v with
              | true =>
                rw [b2] at hj2 hcon
                rw [← hj2] at he
                repeat (first | refine wpg_skipc ?_ | refine wpg_next ?_ | refine wpg_blkout ?_)
                first | refine wpg_seq (wpg_region (id := 9) rfl ?_) | refine wpg_seq (wpg_seq (wpg_region (id := 9) rfl ?_)) | refine wpg_region (id := 9) rfl ?_ | refine wpg_seq (wpg_block rfl (wpg_seq (wpg_region (id := 9) rfl ?_))) | refine wpg_block rfl (wpg_seq (wpg_region (id := 9) rfl ?_))
                refine wpg_v rfl (fun _ => rfl) rfl rfl ?_
                refine wpg_v rfl (fun _ => rfl) rfl rfl ?_
                refine wpg_v rfl (fun _ => rfl) rfl rfl ?_
                refine wpg_v rfl (fun _ => rfl) rfl rfl ?_
                refine wpg_v rfl (fun _ => rfl) rfl rfl ?_
                refine wpg_vg rfl rfl rfl b1 (fun _ => rfl) rfl rfl ?_
                refine wpg_run rfl rfl rfl b1 ((hcon).mono ?_)
                rintro _ rfl
                refine wpg_put rfl rfl ?_
                refine wpg_pf rfl rfl rfl b1 rfl rfl rfl ?_
                refine wpg_nil ?_
                repeat (first | refine wpg_next ?_ | refine wpg_blkout ?_)
                refine And.intro (fun _ => ?_) (fun h => by cases h)
                exact congrArg (SV.v .b) he
              | false =>
                rw [b2] at hj2 hcon
                repeat (first | refine wpg_skipc ?_ | refine wpg_next ?_ | refine wpg_blkout ?_)
                first | refine wpg_seq (wpg_region (id := 9) rfl ?_) | refine wpg_seq (wpg_seq (wpg_region (id := 9) rfl ?_)) | refine wpg_region (id := 9) rfl ?_ | refine wpg_seq (wpg_block rfl (wpg_seq (wpg_region (id := 9) rfl ?_))) | refine wpg_block rfl (wpg_seq (wpg_region (id := 9) rfl ?_))
                refine wpg_v rfl (fun _ => rfl) rfl rfl ?_
                refine wpg_v rfl (fun _ => rfl) rfl rfl ?_
                refine wpg_v rfl (fun _ => rfl) rfl rfl ?_
                refine wpg_v rfl (fun _ => rfl) rfl rfl ?_
                refine wpg_v rfl (fun _ => rfl) rfl rfl ?_
                refine wpg_vg rfl rfl rfl b1 (fun _ => rfl) rfl rfl ?_
                refine wpg_run rfl rfl rfl b1 ((hcon).mono ?_)
                rintro _ rfl
                refine wpg_put rfl rfl ?_
                refine wpg_pf rfl rfl rfl b1 rfl rfl rfl ?_
                refine wpg_nil ?_
                repeat (first | refine wpg_next ?_ | refine wpg_blkout ?_)
                refine And.intro (fun h => by cases h) (fun _ => ?_)
                refine ⟨j + 1, ⟨hltj, hj2⟩, by show x.length - (j + 1) < x.length - j; omega, ?_⟩
                refine ent_of rfl rfl ?_ ?_
                · exact ⟨rfl, rfl, rfl, rfl, rfl, rfl, wj.symm, trivial⟩
                · exact trivial
          · have hj3 : j = x.length := by have h' : ¬ (j : Int) < (x.length : Int) := of_decide_eq_false h; omega
            rw [List.drop_of_length_le (by omega), vastR] at hj2
            rw [← hj2] at he
            refine ⟨i + 1, ⟨hlt, he⟩, by show ms.length - (i + 1) < ms.length - i; omega, ?_⟩
            refine ent_of rfl rfl ?_ ?_
            · exact ⟨rfl, rfl, rfl, wi.symm, trivial⟩
            · exact trivial
        · exact ⟨Nat.zero_le _, rfl⟩
        · refine ent_of rfl rfl ?_ ?_
          · exact ⟨rfl, rfl, rfl, rfl, rfl, rfl, rfl, trivial⟩
          · exact trivial
    · have hi2 : i = ms.length := by have h' : ¬ (i : Int) < (ms.length : Int) := of_decide_eq_false h; omega
      rw [List.drop_of_length_le (by omega)] at he
      exact congrArg (SV.v .b) he
  · exact ⟨Nat.zero_le _, rfl⟩
  · refine ent_of rfl rfl ?_ ?_
    · exact ⟨rfl, rfl, rfl, rfl, trivial⟩
    · exact trivial
end Go.Proofs.YtnfgnkbgajhhbaaGreatDoor
