import Derived.Test.YtnfgnkbgajhhbaaGreatDoorT1
import Derived.Test.YtnfgnkbgajhhbaaGreatDoorDe
set_option linter.constructorNameAsVariable false
set_option linter.unusedSimpArgs false
set_option linter.unusedVariables false
namespace Go.Proofs.YtnfgnkbgajhhbaaGreatDoor
open Go.Am Go.Tx Dv
set_option maxRecDepth 100000
theorem or_shift {r x : Int} (h0 : 0 ≤ r) (h1 : r < 4294967296) (h2 : 0 ≤ x) (h3 : x < 4294967296) :
    IntKind.u64.wrap ((BitVec.ofInt IntKind.u64.bits (IntKind.u64.wrap (r * 2 ^ min (Int.toNat 32) IntKind.u64.bits)) ||| BitVec.ofInt IntKind.u64.bits (IntKind.u64.wrap x)).toNat : Int) = r * 4294967296 + x := by
  obtain ⟨n, rfl⟩ : ∃ n : Nat, r = n := ⟨r.toNat, by omega⟩
  obtain ⟨m, rfl⟩ : ∃ m : Nat, x = m := ⟨x.toNat, by omega⟩
  have e1 : IntKind.u64.wrap ((n : Int) * 2 ^ min (Int.toNat 32) IntKind.u64.bits) = ((n * 4294967296 : Nat) : Int) := by
    show IntKind.u64.wrap ((n : Int) * 4294967296) = _
    rw [u64_small (by omega) (by omega)]; omega
  have e2 : IntKind.u64.wrap (m : Int) = (m : Int) := u64_small (by omega) (by omega)
  rw [e1, e2]
  show IntKind.u64.wrap ((BitVec.ofInt 64 ((n * 4294967296 : Nat) : Int) ||| BitVec.ofInt 64 (m : Int)).toNat : Int) = _
  rw [BitVec.ofInt_natCast, BitVec.ofInt_natCast, BitVec.toNat_or, BitVec.toNat_ofNat, BitVec.toNat_ofNat, Nat.mod_eq_of_lt (by omega), Nat.mod_eq_of_lt (by omega)]
  have e3 : n * 4294967296 ||| m = n * 4294967296 + m := by
    have := Nat.shiftLeft_add_eq_or_of_lt (a := n) (b := m) (i := 32) (by omega)
    rw [Nat.shiftLeft_eq] at this
    exact this.symm
  rw [e3, u64_small (by omega) (by omega)]; omega
set_option maxHeartbeats 4000000 in
theorem shortDiv_g (p : FuncId → Option (List PV → Option PV)) (hp : p 120 = none) (a : List Int) (d : Int) (ha : Wd a) (hd0 : 0 < d) (hd1 : d < 4294967296) (hl : a.length ≤ 1000000) : PureOK Tryz.prog (hintsP p) 120 [u32s a, .v (.i .u32) d] (fun V => ∃ q, V = .tup [u32s q, .v (.i .u32) (wv a % d)] ∧ Wd q ∧ q.length = a.length ∧ wv q = wv a / d) := by
  refine pure_rule (fn := Tryz.f120) (code := bodyOf Tryz.f120) tys_ok (by kernel_rfl) hp Tryz.func120 (by kernel_rfl) (Nat.le_of_ble_eq_true (by kernel_rfl)) ?_
  have w1 : IntKind.i64.wrap ((a.length : Int) - 1) = (a.length : Int) - 1 := wrap64 (by omega) (by omega)
  have w2 : 0 ≤ (a.length : Int) ∧ (a.length : Int) ≤ a.length ∧ (4 : Int) * a.length ≤ 281474976710656 ∧ (a.length : Int) < 9223372036854775808 := by omega
  have w3 : a.length = (a.length : Int).toNat := (Int.toNat_natCast _).symm
  have w4 : List.replicate a.length (0 : Int) = List.replicate (a.length : Int).toNat 0 := by rw [← w3]
  refine And.intro w2 ?_
  refine loop_wp tys_ok rfl (fun (s : Nat × Int × List Int) => [(0, u32s a), (1, .v (.i .u32) d), (6, .ref 0 0 a.length none), (7, .v (.i .u64) s.2.1), (8, .v (.i .i64) ((s.1 : Int) - 1))]) (fun s => [.row (.i .u32) s.2.2 true])
    (fun s => s.1 ≤ a.length ∧ 0 ≤ s.2.1 ∧ s.2.1 < d ∧ s.2.2.length = a.length ∧ Wd (s.2.2.drop s.1) ∧ wv (a.drop s.1) = d * wv (s.2.2.drop s.1) + s.2.1) (fun s => s.1) ?_ (a.length, 0, List.replicate a.length 0) ?_ ?_
  · rintro ⟨k, r, out⟩ ⟨hk, hr0, hr1, hlen, hwd, hval⟩
    simp only at hk hr0 hr1 hlen hwd hval
    refine And.intro (fun h => ?_) (fun h => ?_)
    · have hk1 : 1 ≤ k := by have := of_decide_eq_true h; simp only at this; omega
      obtain ⟨m, rfl⟩ : ∃ m, k = m + 1 := ⟨k - 1, by omega⟩
      have hm : m < a.length := by omega
      have ix : (((m + 1 : Nat) : Int) - 1).toNat = m := by omega
      have ix0 : (0 : Int) ≤ ((m + 1 : Nat) : Int) - 1 := by omega
      have hg : a[(((m + 1 : Nat) : Int) - 1).toNat]? = some a[m] := by rw [ix]; exact List.getElem?_eq_getElem hm
      refine ⟨by decide, a[m], ix0, hg, ?_⟩
      refine And.intro ?_ ?_
      · show IntKind.u64.wrap d ≠ 0
        rw [u64_small (by omega) (by omega)]; omega
      refine And.intro ⟨ix0, by show (((m + 1 : Nat) : Int) - 1) < (a.length : Int); omega⟩ ?_
      refine Exists.intro (out[m]) (And.intro (by show out[0 + (((m + 1 : Nat) : Int) - 1).toNat]? = _; rw [ix, Nat.zero_add]; exact List.getElem?_eq_getElem (by omega)) ?_)
      refine And.intro ?_ ?_
      · show IntKind.u64.wrap d ≠ 0
        rw [u64_small (by omega) (by omega)]; omega
      have ham := ha _ (List.getElem_mem hm)
      have hor := or_shift hr0 (show r < 4294967296 by omega) ham.1 ham.2
      have hdw : IntKind.u64.wrap d = d := u64_small (by omega) (by omega)
      have hX0 : 0 ≤ r * 4294967296 + a[m] := by omega
      have hX1 : r * 4294967296 + a[m] < 4294967296 * d := by omega
      have hq0 : 0 ≤ (r * 4294967296 + a[m]) / d := Int.ediv_nonneg hX0 (by omega)
      have hq1 : (r * 4294967296 + a[m]) / d < 4294967296 := Int.ediv_lt_of_lt_mul hd0 hX1
      have em : (r * 4294967296 + a[m]) % d = (IntKind.u64.wrap ((BitVec.ofInt IntKind.u64.bits (IntKind.u64.wrap (r * 2 ^ min (Int.toNat 32) IntKind.u64.bits)) ||| BitVec.ofInt IntKind.u64.bits (IntKind.u64.wrap a[m])).toNat : Int)).tmod (IntKind.u64.wrap d) := by
        rw [hor, hdw, Int.tmod_eq_emod_of_nonneg hX0]
      have eq' : (r * 4294967296 + a[m]) / d = IntKind.u32.wrap (IntKind.u64.wrap ((IntKind.u64.wrap ((BitVec.ofInt IntKind.u64.bits (IntKind.u64.wrap (r * 2 ^ min (Int.toNat 32) IntKind.u64.bits)) ||| BitVec.ofInt IntKind.u64.bits (IntKind.u64.wrap a[m])).toNat : Int)).tdiv (IntKind.u64.wrap d))) := by
        rw [hor, hdw, Int.tdiv_eq_ediv_of_nonneg hX0, u64_small hq0 (by omega), u32_wrap, Int.emod_eq_of_lt hq0 hq1]
      have er : out.set m ((r * 4294967296 + a[m]) / d) = out.set (0 + (((m + 1 : Nat) : Int) - 1).toNat) (IntKind.u32.wrap (IntKind.u64.wrap ((IntKind.u64.wrap ((BitVec.ofInt IntKind.u64.bits (IntKind.u64.wrap (r * 2 ^ min (Int.toNat 32) IntKind.u64.bits)) ||| BitVec.ofInt IntKind.u64.bits (IntKind.u64.wrap a[m])).toNat : Int)).tdiv (IntKind.u64.wrap d)))) := by
        rw [← eq', ix, Nat.zero_add]
      have wi : (m : Int) - 1 = IntKind.i64.wrap (((m + 1 : Nat) : Int) - 1 - 1) := by rw [wrap64 (by omega) (by omega)]; omega
      have hds : ∀ x : Int, (out.set m x).drop m = x :: out.drop (m + 1) := fun x => by
        rw [List.drop_eq_getElem_cons (by rw [List.length_set]; omega), List.getElem_set_self, List.drop_set_of_lt (by omega)]
      have hda : a.drop m = a[m] :: a.drop (m + 1) := List.drop_eq_getElem_cons hm
      refine ⟨(m, (r * 4294967296 + a[m]) % d, out.set m ((r * 4294967296 + a[m]) / d)), ⟨?_, ?_, ?_, ?_, ?_, ?_⟩, ?_, ?_⟩
      · show m ≤ a.length; omega
      · show 0 ≤ (r * 4294967296 + a[m]) % d; exact Int.emod_nonneg _ (by omega)
      · show (r * 4294967296 + a[m]) % d < d; exact Int.emod_lt_of_pos _ hd0
      · show (out.set _ _).length = _; simpa using hlen
      · show Wd ((out.set m _).drop m)
        rw [hds]
        intro x hx
        rcases List.mem_cons.1 hx with rfl | hx
        · exact ⟨hq0, hq1⟩
        · exact hwd x hx
      · show wv (a.drop m) = d * wv ((out.set m _).drop m) + (r * 4294967296 + a[m]) % d
        rw [hds, hda, wv, wv, hval]
        have e := Int.emod_add_mul_ediv (r * 4294967296 + a[m]) d
        generalize wv (out.drop (m + 1)) = v
        have e2 : d * (4294967296 * v) = 4294967296 * (d * v) := by rw [← Int.mul_assoc, Int.mul_comm d, Int.mul_assoc]
        rw [Int.mul_add d, e2]
        generalize d * v = t
        generalize d * ((r * 4294967296 + a[m]) / d) = z at e ⊢
        omega
      · show m < m + 1; omega
      · refine ent_of rfl rfl ?_ ?_
        · exact ⟨rfl, rfl, ⟨rfl, rfl, rfl⟩, em, wi, trivial⟩
        · exact ⟨⟨er, fun _ => rfl⟩, trivial⟩
    · have hk0 : k = 0 := by have := of_decide_eq_false h; simp only at this; omega
      subst hk0
      refine And.intro (by show 0 + a.length ≤ out.length; omega) ?_
      rw [List.drop_zero] at hwd
      rw [List.drop_zero, List.drop_zero] at hval
      have hs : sub out 0 a.length = out := by rw [sub, List.drop_zero, List.take_of_length_le (by omega)]
      have e1 : wv a % d = r := by rw [hval, Int.add_comm, Int.add_mul_emod_self_left, Int.emod_eq_of_lt hr0 hr1]
      have e2 : wv a / d = wv out := by rw [hval, Int.add_comm, Int.add_mul_ediv_left _ _ (by omega), Int.ediv_eq_zero_of_lt hr0 hr1, Int.zero_add]
      have e3 : IntKind.u32.wrap r = r := by rw [u32_wrap, Int.emod_eq_of_lt hr0 (by omega)]
      have e4 : SV.tup [u32s (sub out 0 a.length), .v (.i .u32) (IntKind.u32.wrap r)] = SV.tup [u32s out, .v (.i .u32) (wv a % d)] := by rw [hs, e1, e3]
      exact ⟨out, e4, hwd, hlen, e2.symm⟩
  · exact ⟨Nat.le_refl _, Int.le_refl _, hd0, by show (List.replicate _ _).length = _; simp, by intro x hx; simp at hx, by simp [wv]⟩
  · refine ent_of rfl rfl ?_ ?_
    · exact ⟨rfl, rfl, ⟨rfl, w3, w3⟩, rfl, w1.symm, trivial⟩
    · exact ⟨⟨w4, fun _ => rfl⟩, trivial⟩
theorem shortDiv_t (a : List Int) (d : Int) (ha : Wd a) (hd0 : 0 < d) (hd1 : d < 4294967296) (hl : a.length ≤ 1000000) : PureOK Tryz.prog hints 120 [u32s a, .v (.i .u32) d] (fun V => ∃ q, V = .tup [u32s q, .v (.i .u32) (wv a % d)] ∧ Wd q ∧ q.length = a.length ∧ wv q = wv a / d) := shortDiv_g prims rfl a d ha hd0 hd1 hl
end Go.Proofs.YtnfgnkbgajhhbaaGreatDoor
set_option linter.unusedSimpArgs false
set_option linter.unusedVariables false
namespace Go.Proofs.YtnfgnkbgajhhbaaGreatDoor
open Go.Am Go.Tx Dv
set_option maxRecDepth 100000
set_option maxHeartbeats 4000000 in
theorem norm_g (p : FuncId → Option (List PV → Option PV)) (hp : p 121 = none) (m : Bool) (a : List Int) (ha : Wd a) (hl : a.length ≤ 1000000) : PureOK Tryz.prog (hintsP p) 121 [.v .b m, u32s a] (fun V => ∃ s, V = .agg [.v .b (m && decide (0 < (s.length : Int))), u32s s] ∧ Wd s ∧ Nz s ∧ s.length ≤ a.length ∧ wv s = wv a) := by
  refine pure_rule (fn := Tryz.f121) (code := bodyOf Tryz.f121) tys_ok (by kernel_rfl) hp Tryz.func121 (by kernel_rfl) (Nat.le_of_ble_eq_true (by kernel_rfl)) ?_
  refine loop_wp tys_ok rfl (fun (k : Nat) => [(0, .v .b m), (1, u32s (a.take k)), (4, .ptr 0 0 0)]) (fun _ => [.cell [.v .b false, .nils] true])
    (fun k => k ≤ a.length ∧ wv (a.take k) = wv a) (fun k => k) ?_ a.length ?_ ?_
  · rintro k ⟨hk, hval⟩
    have nf : ∀ {b : Bool}, b = true → b = false → False := fun h h' => by rw [h] at h'; cases h'
    refine And.intro (fun h => ?_) (fun h => ?_)
    · refine And.intro (fun _ => ?_) (fun h' => (nf h h').elim)
      refine And.intro (fun _ => ?_) (fun h' => (nf h h').elim)
      refine And.intro (fun _ => ?_) (fun h' => (nf h h').elim)
      refine And.intro (fun _ => ?_) (fun h' => (nf h h').elim)
      have hkl : (a.take k).length = k := by rw [List.length_take]; omega
      have hk1 : 1 ≤ k := by have := of_decide_eq_true h; rw [hkl] at this; omega
      obtain ⟨j, rfl⟩ : ∃ j, k = j + 1 := ⟨k - 1, by omega⟩
      have ej : IntKind.i64.wrap (((a.take (j + 1)).length : Int) - 1) = (j : Int) := by rw [hkl, wrap64 (by omega) (by omega)]; omega
      have hj0 : 0 ≤ IntKind.i64.wrap (((a.take (j + 1)).length : Int) - 1) := by rw [ej]; omega
      have hg : (a.take (j + 1))[(IntKind.i64.wrap (((a.take (j + 1)).length : Int) - 1)).toNat]? = some a[j] := by
        rw [ej, Int.toNat_natCast, List.getElem?_take_of_lt (by omega)]; exact List.getElem?_eq_getElem (by omega)
      refine ⟨a[j], hj0, hg, ?_⟩
      refine And.intro (fun _ => ?_) (fun h' => (nf h h').elim)
      refine And.intro (fun _ => ?_) (fun h' => (nf h h').elim)
      refine And.intro (fun _ => ?_) (fun h' => (nf h h').elim)
      refine And.intro (fun h2 => ?_) (fun h2 => ?_)
      · refine And.intro ⟨hj0, by show IntKind.i64.wrap (((a.take (j + 1)).length : Int) - 1) ≤ ((a.take (j + 1)).length : Int); rw [ej, hkl]; omega⟩ ?_
        have hz : a[j] = 0 := of_decide_eq_true h2
        have et : a.take j = List.drop 0 (List.take (IntKind.i64.wrap (((a.take (j + 1)).length : Int) - 1)).toNat (a.take (j + 1))) := by
          rw [ej, Int.toNat_natCast, List.drop_zero, List.take_take, Nat.min_eq_left (by omega)]
        refine ⟨j, ⟨by show j ≤ a.length; omega, ?_⟩, by show j < j + 1; omega, ?_⟩
        · show wv (a.take j) = wv a
          rw [← hval, wv_take (by omega : j < a.length), hz]; omega
        · refine ent_of rfl rfl ?_ ?_
          · exact ⟨rfl, et, ⟨rfl, rfl⟩, trivial⟩
          · exact ⟨⟨⟨rfl, trivial, trivial⟩, fun _ => rfl⟩, trivial⟩
      · have hnz : Nz (a.take (j + 1)) := by
          intro hne
          rw [List.getLast_eq_getElem]
          simp only [hkl, Nat.add_sub_cancel, List.getElem_take]
          exact of_decide_eq_false h2
        have hwd : Wd (a.take (j + 1)) := fun x hx => ha x (List.mem_of_mem_take hx)
        refine And.intro (fun hm => ?_) (fun hm => ?_)
        · refine And.intro (fun _ => ?_) (fun h' => (nf hm h').elim)
          refine And.intro (fun _ => ?_) (fun h' => (nf hm h').elim)
          refine And.intro (fun _ => ?_) (fun h' => (nf hm h').elim)
          subst hm
          exact ⟨rfl, rfl, a.take (j + 1), rfl, hwd, hnz, by rw [hkl]; exact hk, hval⟩
        · refine And.intro (fun h' => (nf h' hm).elim) (fun _ => ?_)
          refine And.intro (fun h' => (nf h' hm).elim) (fun _ => ?_)
          refine And.intro (fun h' => (nf h' hm).elim) (fun _ => ?_)
          subst hm
          exact ⟨rfl, rfl, a.take (j + 1), rfl, hwd, hnz, by rw [hkl]; exact hk, hval⟩
    · have hkl : (a.take k).length = k := by rw [List.length_take]; omega
      have hk0 : k = 0 := by have := of_decide_eq_false h; rw [hkl] at this; omega
      subst hk0
      refine And.intro (fun h' => (nf h' h).elim) (fun _ => ?_)
      refine And.intro (fun h' => (nf h' h).elim) (fun _ => ?_)
      refine And.intro (fun h' => (nf h' h).elim) (fun _ => ?_)
      refine And.intro (fun h' => (nf h' h).elim) (fun _ => ?_)
      refine And.intro (fun h' => (nf h' h).elim) (fun _ => ?_)
      refine And.intro (fun h' => (nf h' h).elim) (fun _ => ?_)
      refine And.intro (fun h' => (nf h' h).elim) (fun _ => ?_)
      refine And.intro (fun h' => nomatch h') (fun _ => ?_)
      refine And.intro (fun hm => ?_) (fun hm => ?_)
      · refine And.intro (fun _ => ?_) (fun h' => (nf hm h').elim)
        refine And.intro (fun _ => ?_) (fun h' => (nf hm h').elim)
        refine And.intro (fun _ => ?_) (fun h' => (nf hm h').elim)
        subst hm
        exact ⟨rfl, rfl, [], rfl, fun x hx => (by simp at hx), fun hne => absurd rfl hne, Nat.zero_le _, hval⟩
      · refine And.intro (fun h' => (nf h' hm).elim) (fun _ => ?_)
        refine And.intro (fun h' => (nf h' hm).elim) (fun _ => ?_)
        refine And.intro (fun h' => (nf h' hm).elim) (fun _ => ?_)
        subst hm
        exact ⟨rfl, rfl, [], rfl, fun x hx => (by simp at hx), fun hne => absurd rfl hne, Nat.zero_le _, hval⟩
  · exact ⟨Nat.le_refl _, by rw [List.take_length]⟩
  · refine ent_of rfl rfl ?_ ?_
    · exact ⟨rfl, (List.take_length).symm ▸ rfl, ⟨rfl, rfl⟩, trivial⟩
    · exact ⟨⟨⟨rfl, trivial, trivial⟩, fun _ => rfl⟩, trivial⟩
theorem norm_t (m : Bool) (a : List Int) (ha : Wd a) (hl : a.length ≤ 1000000) : PureOK Tryz.prog hints 121 [.v .b m, u32s a] (fun V => ∃ s, V = .agg [.v .b (m && decide (0 < (s.length : Int))), u32s s] ∧ Wd s ∧ Nz s ∧ s.length ≤ a.length ∧ wv s = wv a) := norm_g prims rfl m a ha hl
end Go.Proofs.YtnfgnkbgajhhbaaGreatDoor
/-
  The words of a number.
-/
set_option linter.unusedSimpArgs false
set_option linter.unusedVariables false
namespace Dv
def wOf (n : Nat) : List Int := if h : n = 0 then [] else ((n % 4294967296 : Nat) : Int) :: wOf (n / 4294967296)
termination_by n
decreasing_by omega
theorem wOf_zero : wOf 0 = [] := by rw [wOf, dif_pos rfl]
theorem wOf_pos {n : Nat} (h : n ≠ 0) : wOf n = ((n % 4294967296 : Nat) : Int) :: wOf (n / 4294967296) := by rw [wOf, dif_neg h]
theorem wOf_nil {n : Nat} : wOf n = [] ↔ n = 0 := by
  constructor
  · intro h
    rcases Nat.eq_zero_or_pos n with h0 | h0
    · exact h0
    · rw [wOf_pos (by omega)] at h; cases h
  · rintro rfl; exact wOf_zero
theorem wOf_spec (n : Nat) : Wd (wOf n) ∧ Nz (wOf n) ∧ wv (wOf n) = n := by
  induction n using Nat.strongRecOn with
  | _ n ih =>
    by_cases h : n = 0
    · subst h
      rw [wOf_zero]
      exact ⟨fun x hx => by simp at hx, fun h => absurd rfl h, rfl⟩
    · obtain ⟨h1, h2, h3⟩ := ih (n / 4294967296) (by omega)
      rw [wOf_pos h]
      refine ⟨fun x hx => ?_, fun hne => ?_, ?_⟩
      · rcases List.mem_cons.1 hx with rfl | hx
        · omega
        · exact h1 x hx
      · by_cases hz : wOf (n / 4294967296) = []
        · have : n / 4294967296 = 0 := wOf_nil.1 hz
          simp only [hz, List.getLast_singleton]
          omega
        · rw [List.getLast_cons hz]
          exact h2 hz
      · rw [wv, h3]; omega
theorem wd_wOf (n : Nat) : Wd (wOf n) := (wOf_spec n).1
theorem nz_wOf (n : Nat) : Nz (wOf n) := (wOf_spec n).2.1
theorem wv_wOf (n : Nat) : wv (wOf n) = n := (wOf_spec n).2.2
theorem wv_nonneg {l : List Int} (h : Wd l) : 0 ≤ wv l := (wv_bound h).1
theorem wOf_uniq : ∀ {l : List Int} {n : Nat}, Wd l → Nz l → wv l = n → l = wOf n
  | [], n, _, _, h => by
    have : n = 0 := by simp only [wv] at h; omega
    rw [this, wOf_zero]
  | x :: l, n, h1, h2, h3 => by
    have hx := h1 x List.mem_cons_self
    have hl : Wd l := fun y hy => h1 y (List.mem_cons_of_mem _ hy)
    have hp := nz_pos h1 h2 (by simp)
    have h0 := wv_nonneg hl
    simp only [wv] at h3 hp
    have hn : Nz l := fun hne => by
      have := h2 (by simp)
      rwa [List.getLast_cons hne] at this
    rw [wOf_pos (by omega), ← wOf_uniq (l := l) (n := n / 4294967296) hl hn (by omega)]
    congr 1
    omega
theorem wOf_len {n k : Nat} : (wOf n).length ≤ k ↔ n < 4294967296 ^ k := by
  induction k generalizing n with
  | zero =>
    simp only [Nat.le_zero_eq, List.length_eq_zero_iff, wOf_nil, Nat.pow_zero]
    omega
  | succ k ih =>
    by_cases h : n = 0
    · subst h
      rw [wOf_zero]
      simp only [List.length_nil, Nat.zero_le, true_iff]
      exact Nat.pow_pos (by decide)
    · rw [wOf_pos h, List.length_cons, Nat.add_le_add_iff_right, ih, Nat.pow_succ]
      omega
theorem wOf_len_mono {m n : Nat} (h : m ≤ n) : (wOf m).length ≤ (wOf n).length := by
  rw [wOf_len]
  exact Nat.lt_of_le_of_lt h (wOf_len.1 (Nat.le_refl _))
theorem wOf_len_add (m n : Nat) : (wOf (m + n)).length ≤ max (wOf m).length (wOf n).length + 1 := by
  rw [wOf_len, Nat.pow_succ]
  have h1 : m < 4294967296 ^ max (wOf m).length (wOf n).length := wOf_len.1 (Nat.le_max_left _ _)
  have h2 : n < 4294967296 ^ max (wOf m).length (wOf n).length := wOf_len.1 (Nat.le_max_right _ _)
  omega
theorem wOf_len_mul (m n : Nat) : (wOf (m * n)).length ≤ (wOf m).length + (wOf n).length := by
  rw [wOf_len, Nat.pow_add]
  have h1 : m < 4294967296 ^ (wOf m).length := wOf_len.1 (Nat.le_refl _)
  have h2 : n < 4294967296 ^ (wOf n).length := wOf_len.1 (Nat.le_refl _)
  exact Nat.mul_lt_mul'' h1 h2
def ln (v : Int) : Nat := (wOf v.natAbs).length
theorem ln_neg (v : Int) : ln (-v) = ln v := by rw [ln, Int.natAbs_neg]; rfl
theorem ln_add (a b : Int) : ln (a + b) ≤ max (ln a) (ln b) + 1 := Nat.le_trans (wOf_len_mono (Int.natAbs_add_le a b)) (wOf_len_add _ _)
theorem ln_mul (a b : Int) : ln (a * b) ≤ ln a + ln b := by rw [ln, Int.natAbs_mul]; exact wOf_len_mul _ _
theorem ln_le {v : Int} {k : Nat} : ln v ≤ k ↔ v.natAbs < 4294967296 ^ k := wOf_len
theorem ln_mono {a b : Int} (h : a.natAbs ≤ b.natAbs) : ln a ≤ ln b := wOf_len_mono h
theorem ln_small {v : Int} (h : v.natAbs < 18446744073709551616) : ln v ≤ 2 := ln_le.2 (by simpa using h)
end Dv