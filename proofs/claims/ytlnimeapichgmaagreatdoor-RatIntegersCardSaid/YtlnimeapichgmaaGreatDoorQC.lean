/-
  (large.Int).Small; rat.Integer.
-/
import Derived.Test.YtlnimeapichgmaaGreatDoorQ7
import Derived.Test.YtlnimeapichgmaaGreatDoorQB
set_option linter.constructorNameAsVariable false
set_option linter.unusedSimpArgs false
set_option linter.unusedVariables false
namespace Go.Proofs.YtlnimeapichgmaaGreatDoor
open Go.Am Go.Tx Dv Go.Lib
set_option maxRecDepth 100000
/-- A number as an int. -/
def smallV (v : Int) : Int × Bool := match decide (-9223372036854775808 ≤ v) && decide (v < 9223372036854775808) with
  | true => (v, true)
  | false => (0, false)
abbrev smC (w : List Int) (i : Nat) : TM := [(1, .ptr 0 0 0), (4, .v (.i .u64) (wv (w.take i))), (12, u32s w), (13, .v (.i .i64) (w.length : Int)), (14, .v (.i .i64) (i : Int))]
set_option maxHeartbeats 8000000 in
theorem Small_t (v : Int) : PureOK Tryz.prog hints 69 [IS v] (fun V => V = .tup [.v (.i .i64) (smallV v).1, .v .b (smallV v).2]) := by
  refine pure_rule (fn := Tryz.f69) (code := bodyOf Tryz.f69) tys_ok (by kernel_rfl) rfl Tryz.func69 (by kernel_rfl) (Nat.le_of_ble_eq_true (by kernel_rfl)) ?_
  have hsp := wOf_len (n := v.natAbs) (k := 2)
  have hv := wv_wOf v.natAbs
  have hw := wd_wOf v.natAbs
  have hsm : smallV v = match decide (-9223372036854775808 ≤ v) && decide (v < 9223372036854775808) with
    | true => (v, true)
    | false => (0, false) := rfl
  obtain ⟨r, hr⟩ : ∃ r, smallV v = r := ⟨_, rfl⟩
  rw [hr] at hsm ⊢
  obtain ⟨w, hw1⟩ : ∃ w, wOf v.natAbs = w := ⟨_, rfl⟩
  obtain ⟨m, hm⟩ : ∃ m, decide (v < 0) = m := ⟨_, rfl⟩
  rw [hw1] at hsp hv hw
  show wp Tryz.prog hints tys 0 _ _ (enterS _ [.agg [.v .b (decide (v < 0)), u32s (wOf v.natAbs)]]) _ _
  rw [hw1, hm]
  have no : ¬ (-9223372036854775808 ≤ v ∧ v < 9223372036854775808) → r = (0, false) := fun h => by
    have hb : (decide (-9223372036854775808 ≤ v) && decide (v < 9223372036854775808)) = false := by
      rw [Bool.and_eq_false_iff, decide_eq_false_iff_not, decide_eq_false_iff_not]
      omega
    rw [hsm, hb]
  have yes : -9223372036854775808 ≤ v ∧ v < 9223372036854775808 → r = (v, true) := fun h => by
    rw [hsm, decide_eq_true h.1, decide_eq_true h.2]
    rfl
  refine And.intro rfl ?_
  refine And.intro (fun h => ?_) (fun h => ?_)
  · have h' : 2 < (w.length : Int) := of_decide_eq_true h
    have hbig : ¬ v.natAbs < 4294967296 ^ 2 := fun hc => by have := hsp.2 hc; omega
    have e := no (by have : (4294967296 : Nat) ^ 2 = 18446744073709551616 := rfl; omega)
    rw [e]
    rfl
  · have hl2 : w.length ≤ 2 := by
      have h' : ¬ 2 < (w.length : Int) := of_decide_eq_false h
      omega
    refine And.intro rfl ?_
    refine loop_wp tys_ok rfl (smC w) (fun _ => [.cell [.v .b m, u32s w] true]) (fun i => i ≤ w.length) (fun i => w.length - i) ?_ 0 ?_ ?_
    · intro i hi
      refine And.intro (fun h => ?_) (fun h => ?_)
      · have hlt : i < w.length := by have h' : (i : Int) < (w.length : Int) := of_decide_eq_true h; omega
        obtain ⟨x, hx⟩ : ∃ x, w[i] = x := ⟨_, rfl⟩
        have gx : w[(i : Int).toNat]? = some x := by rw [Int.toNat_natCast, List.getElem?_eq_getElem hlt, hx]
        have hxw := hw x (hx ▸ List.getElem_mem hlt)
        have ws : IntKind.i64.wrap (32 * (i : Int)) = ((32 * i : Nat) : Int) := by rw [wrap64 (by omega) (by omega)]; omega
        have wi : IntKind.i64.wrap ((i : Int) + 1) = ((i + 1 : Nat) : Int) := wrap64 (by omega) (by omega)
        have hwt : Wd (w.take i) := Wd.take hw i
        have hb := wv_bound hwt
        have hlen : (w.take i).length = i := by rw [List.length_take]; omega
        rw [hlen] at hb
        have hp2 : (2 : Int) ^ (32 * i) = 4294967296 ^ i := by
          rcases (show i = 0 ∨ i = 1 by omega) with rfl | rfl <;> rfl
        have hor := or_low2 (s := 32 * i) (c := wv (w.take i)) (x := x) (by omega) hb.1 (by rw [hp2]; exact hb.2) hxw.1 hxw.2
        rw [hp2] at hor
        have ht := wv_take hlt
        rw [hx] at ht
        refine ⟨x, Int.natCast_nonneg i, gx, ?_⟩
        refine And.intro (show 0 ≤ IntKind.i64.wrap (32 * (i : Int)) by rw [ws]; omega) ?_
        refine ⟨i + 1, hlt, by show w.length - (i + 1) < w.length - i; omega, ?_⟩
        refine ent_of rfl rfl ?_ ?_
        · refine ⟨⟨rfl, rfl⟩, ?_, rfl, rfl, wi.symm, trivial⟩
          show wv (w.take (i + 1)) = IntKind.u64.wrap ((BitVec.ofInt IntKind.u64.bits (wv (w.take i)) ||| BitVec.ofInt IntKind.u64.bits (IntKind.u64.wrap (IntKind.u64.wrap x * 2 ^ min (IntKind.i64.wrap (32 * (i : Int))).toNat IntKind.u64.bits))).toNat : Int)
          rw [ws, hor, ht]
          rw [Int.mul_comm x]
          omega
        · exact ⟨⟨⟨rfl, rfl, trivial⟩, fun _ => rfl⟩, trivial⟩
      · have hi2 : i = w.length := by have h' : ¬ (i : Int) < (w.length : Int) := of_decide_eq_false h; omega
        have hM : wv (w.take i) = (v.natAbs : Int) := by rw [hi2, List.take_length, hv]
        obtain ⟨M, eM⟩ : ∃ M, wv (w.take i) = M := ⟨_, rfl⟩
        rw [eM] at hM
        have smc : smC w i = [(1, .ptr 0 0 0), (4, .v (.i .u64) M), (12, u32s w), (13, .v (.i .i64) (w.length : Int)), (14, .v (.i .i64) (i : Int))] := by rw [← eM]
        cases m with
        | true =>
          have hneg : v < 0 := of_decide_eq_true hm
          cases b1 : decide (M ≤ 9223372036854775808) with
          | true =>
            have b1' : decide (wv (w.take i) ≤ 9223372036854775808) = true := by rw [eM]; exact b1
            have hle := of_decide_eq_true b1
            repeat (first | refine wpg_skipc ?_ | refine wpg_next ?_ | refine wpg_blkout ?_)
            first | refine wpg_seq (wpg_region (id := 9) rfl ?_) | refine wpg_seq (wpg_seq (wpg_region (id := 9) rfl ?_)) | refine wpg_region (id := 9) rfl ?_ | refine wpg_seq (wpg_block rfl (wpg_seq (wpg_region (id := 9) rfl ?_))) | refine wpg_block rfl (wpg_seq (wpg_region (id := 9) rfl ?_))
            refine wpg_v rfl (fun _ => rfl) rfl rfl ?_
            refine wpg_c rfl (fun _ => rfl) rfl rfl rfl ?_
            refine wpg_v rfl (fun _ => rfl) rfl rfl ?_
            refine wpg_vg rfl rfl rfl rfl (fun _ => rfl) rfl rfl ?_
            refine wpg_vg rfl rfl rfl rfl (fun _ => rfl) rfl rfl ?_
            refine wpg_pt rfl rfl rfl rfl rfl rfl rfl ?_
            refine wpg_v rfl (fun _ => rfl) rfl rfl ?_
            refine wpg_nil ?_
            repeat (first | refine wpg_next ?_ | refine wpg_blkout ?_)
            refine And.intro (fun _ => ?_) (fun h => by first | (cases h; done) | exact (nf b1' h).elim)
            have e := yes ⟨by omega, by omega⟩
            rw [e]
            have ew : IntKind.i64.wrap (IntKind.u64.wrap (0 - wv (w.take i))) = v := by
              rw [eM, u64_wrap]
              by_cases hz : M = 9223372036854775808
              · have : v = -9223372036854775808 := by omega
                rw [hz, this]
                rfl
              · have : (0 - M) % 18446744073709551616 = 18446744073709551616 + v := by omega
                rw [this]
                unfold IntKind.wrap IntKind.signed IntKind.bits
                simp only [Bool.true_and]
                split <;> rename_i h <;> simp only [decide_eq_true_eq] at h <;> omega
            show SV.tup [.v (.i .i64) (IntKind.i64.wrap (IntKind.u64.wrap (0 - wv (w.take i)))), .v .b true] = _
            rw [ew]
          | false =>
            have b1' : decide (wv (w.take i) ≤ 9223372036854775808) = false := by rw [eM]; exact b1
            have hle := of_decide_eq_false b1
            repeat (first | refine wpg_skipc ?_ | refine wpg_next ?_ | refine wpg_blkout ?_)
            first | refine wpg_seq (wpg_region (id := 9) rfl ?_) | refine wpg_seq (wpg_seq (wpg_region (id := 9) rfl ?_)) | refine wpg_region (id := 9) rfl ?_ | refine wpg_seq (wpg_block rfl (wpg_seq (wpg_region (id := 9) rfl ?_))) | refine wpg_block rfl (wpg_seq (wpg_region (id := 9) rfl ?_))
            refine wpg_v rfl (fun _ => rfl) rfl rfl ?_
            refine wpg_c rfl (fun _ => rfl) rfl rfl rfl ?_
            refine wpg_v rfl (fun _ => rfl) rfl rfl ?_
            refine wpg_vg rfl rfl rfl rfl (fun _ => rfl) rfl rfl ?_
            refine wpg_vg rfl rfl rfl rfl (fun _ => rfl) rfl rfl ?_
            refine wpg_pt rfl rfl rfl rfl rfl rfl rfl ?_
            refine wpg_v rfl (fun _ => rfl) rfl rfl ?_
            refine wpg_nil ?_
            repeat (first | refine wpg_next ?_ | refine wpg_blkout ?_)
            refine And.intro (fun h => by first | (cases h; done) | exact (nf h b1').elim) (fun _ => ?_)
            have e := no (by omega)
            rw [e]
            repeat (first | refine wpg_skipc ?_ | refine wpg_next ?_ | refine wpg_blkout ?_)
            first | refine wpg_seq (wpg_region (id := 11) rfl ?_) | refine wpg_seq (wpg_seq (wpg_region (id := 11) rfl ?_)) | refine wpg_region (id := 11) rfl ?_ | refine wpg_seq (wpg_block rfl (wpg_seq (wpg_region (id := 11) rfl ?_))) | refine wpg_block rfl (wpg_seq (wpg_region (id := 11) rfl ?_))
            refine wpg_v rfl (fun _ => rfl) rfl rfl ?_
            refine wpg_c rfl (fun _ => rfl) rfl rfl rfl ?_
            refine wpg_v rfl (fun _ => rfl) rfl rfl ?_
            refine wpg_v rfl (fun _ => rfl) rfl rfl ?_
            refine wpg_skip rfl rfl rfl rfl rfl rfl ?_
            refine wpg_skip rfl rfl rfl rfl rfl rfl ?_
            refine wpg_pf rfl rfl rfl rfl rfl rfl rfl ?_
            refine wpg_v rfl (fun _ => rfl) rfl rfl ?_
            refine wpg_nil ?_
            repeat (first | refine wpg_next ?_ | refine wpg_blkout ?_)
            refine And.intro (fun h => by cases h) (fun _ => ?_)
            rfl
        | false =>
          have hneg : ¬ v < 0 := of_decide_eq_false hm
          repeat (first | refine wpg_skipc ?_ | refine wpg_next ?_ | refine wpg_blkout ?_)
          first | refine wpg_seq (wpg_region (id := 9) rfl ?_) | refine wpg_seq (wpg_seq (wpg_region (id := 9) rfl ?_)) | refine wpg_region (id := 9) rfl ?_ | refine wpg_seq (wpg_block rfl (wpg_seq (wpg_region (id := 9) rfl ?_))) | refine wpg_block rfl (wpg_seq (wpg_region (id := 9) rfl ?_))
          refine wpg_v rfl (fun _ => rfl) rfl rfl ?_
          refine wpg_c rfl (fun _ => rfl) rfl rfl rfl ?_
          refine wpg_v rfl (fun _ => rfl) rfl rfl ?_
          refine wpg_skip rfl rfl rfl rfl rfl rfl ?_
          refine wpg_skip rfl rfl rfl rfl rfl rfl ?_
          refine wpg_pf rfl rfl rfl rfl rfl rfl rfl ?_
          refine wpg_v rfl (fun _ => rfl) rfl rfl ?_
          refine wpg_nil ?_
          repeat (first | refine wpg_next ?_ | refine wpg_blkout ?_)
          refine And.intro (fun h => by cases h) (fun _ => ?_)
          cases b1 : decide (M < 9223372036854775808) with
          | true =>
            have b1' : decide (wv (w.take i) < 9223372036854775808) = true := by rw [eM]; exact b1
            have hle := of_decide_eq_true b1
            repeat (first | refine wpg_skipc ?_ | refine wpg_next ?_ | refine wpg_blkout ?_)
            first | refine wpg_seq (wpg_region (id := 11) rfl ?_) | refine wpg_seq (wpg_seq (wpg_region (id := 11) rfl ?_)) | refine wpg_region (id := 11) rfl ?_ | refine wpg_seq (wpg_block rfl (wpg_seq (wpg_region (id := 11) rfl ?_))) | refine wpg_block rfl (wpg_seq (wpg_region (id := 11) rfl ?_))
            refine wpg_v rfl (fun _ => rfl) rfl rfl ?_
            refine wpg_c rfl (fun _ => rfl) rfl rfl rfl ?_
            refine wpg_v rfl (fun _ => rfl) rfl rfl ?_
            refine wpg_v rfl (fun _ => rfl) rfl rfl ?_
            refine wpg_vg rfl rfl rfl rfl (fun _ => rfl) rfl rfl ?_
            refine wpg_vg rfl rfl rfl rfl (fun _ => rfl) rfl rfl ?_
            refine wpg_pt rfl rfl rfl rfl rfl rfl rfl ?_
            refine wpg_v rfl (fun _ => rfl) rfl rfl ?_
            refine wpg_nil ?_
            repeat (first | refine wpg_next ?_ | refine wpg_blkout ?_)
            refine And.intro (fun _ => ?_) (fun h => by first | (cases h; done) | exact (nf b1' h).elim)
            have e := yes ⟨by omega, by omega⟩
            rw [e]
            have ew : IntKind.i64.wrap (wv (w.take i)) = v := by rw [eM, wrap64 (by omega) (by omega)]; omega
            show SV.tup [.v (.i .i64) (IntKind.i64.wrap (wv (w.take i))), .v .b true] = _
            rw [ew]
          | false =>
            have b1' : decide (wv (w.take i) < 9223372036854775808) = false := by rw [eM]; exact b1
            have hle := of_decide_eq_false b1
            repeat (first | refine wpg_skipc ?_ | refine wpg_next ?_ | refine wpg_blkout ?_)
            first | refine wpg_seq (wpg_region (id := 11) rfl ?_) | refine wpg_seq (wpg_seq (wpg_region (id := 11) rfl ?_)) | refine wpg_region (id := 11) rfl ?_ | refine wpg_seq (wpg_block rfl (wpg_seq (wpg_region (id := 11) rfl ?_))) | refine wpg_block rfl (wpg_seq (wpg_region (id := 11) rfl ?_))
            refine wpg_v rfl (fun _ => rfl) rfl rfl ?_
            refine wpg_c rfl (fun _ => rfl) rfl rfl rfl ?_
            refine wpg_v rfl (fun _ => rfl) rfl rfl ?_
            refine wpg_v rfl (fun _ => rfl) rfl rfl ?_
            refine wpg_vg rfl rfl rfl rfl (fun _ => rfl) rfl rfl ?_
            refine wpg_vg rfl rfl rfl rfl (fun _ => rfl) rfl rfl ?_
            refine wpg_pt rfl rfl rfl rfl rfl rfl rfl ?_
            refine wpg_v rfl (fun _ => rfl) rfl rfl ?_
            refine wpg_nil ?_
            repeat (first | refine wpg_next ?_ | refine wpg_blkout ?_)
            refine And.intro (fun h => by first | (cases h; done) | exact (nf h b1').elim) (fun _ => ?_)
            have e := no (by omega)
            rw [e]
            rfl
    · exact Nat.zero_le _
    · refine ent_of rfl rfl ?_ ?_
      · exact ⟨⟨rfl, rfl⟩, rfl, rfl, rfl, rfl, trivial⟩
      · exact ⟨⟨⟨rfl, rfl, trivial⟩, fun _ => rfl⟩, trivial⟩
/-- What rat.Integer answers. -/
def intR (q : Rat) : Int × Int := match decide (q.den = 1) with
  | false => (0, 3)
  | true => match smallV q.num with
    | (n, true) => (n, 0)
    | (_, false) => (0, 4)
theorem cut_is (s : List UInt8) (c : UInt8) : decide (0 ≤ idxA s c 0) = (cutS s c).2.2 := by
  unfold cutS
  cases decide (0 ≤ idxA s c 0) <;> rfl
theorem ratT_slash (q : Rat) : decide (0 ≤ idxA (ratT q) 47 0) = !decide (q.den = 1) := by
  rw [cut_is]
  have h : cutS (ratT q) 47 = _ := cut_mns (decide (q.num < 0)) q.num.natAbs q.den
  rw [h]
  cases decide (q.den = 1) <;> rfl
theorem Integer_err (a : List UInt8) (hla : a.length ≤ 9223372036854775806) (hE : ratErr a ≠ 0) : PureOK Tryz.prog hints 32 [.v .s a] (fun V => V = .tup [.v (.i .i64) (0 : Int), .v (.i .i64) (ratErr a)]) := by
  refine pure_rule (fn := Tryz.f32) (code := bodyOf Tryz.f32) tys_ok (by kernel_rfl) rfl Tryz.func32 (by kernel_rfl) (Nat.le_of_ble_eq_true (by kernel_rfl)) ?_
  refine (RCheck_t a hla).mono ?_
  rintro _ rfl
  have hn : (!decide (ratErr a = 0)) = true := by rw [decide_eq_false hE]; rfl
  exact And.intro (fun _ => rfl) (fun h => (nf hn h).elim)
set_option maxHeartbeats 4000000 in
theorem Integer_ok (q : Rat) (hq : fitQ q = true) : PureOK Tryz.prog hints 32 [.v .s (ratT q)] (fun V => V = .tup [.v (.i .i64) (intR q).1, .v (.i .i64) (intR q).2]) := by
  refine pure_rule (fn := Tryz.f32) (code := bodyOf Tryz.f32) tys_ok (by kernel_rfl) rfl Tryz.func32 (by kernel_rfl) (Nat.le_of_ble_eq_true (by kernel_rfl)) ?_
  have hn : (!decide (ratErr (ratT q) = 0)) = false := by rw [ratErr_ratT hq]; rfl
  have hsl := ratT_slash q
  obtain ⟨f1, f2⟩ := fitQ_iff.1 hq
  refine (RCheck_t (ratT q) (fit_le hq)).mono ?_
  rintro _ rfl
  refine And.intro (fun h => (nf h hn).elim) (fun _ => ?_)
  refine (Contains_t (ratT q) 47).mono ?_
  rintro _ rfl
  refine And.intro (fun h => ?_) (fun h => ?_)
  · have h' : decide (0 ≤ idxA (ratT q) 47 0) = true := h
    rw [hsl] at h'
    have hd : decide (q.den = 1) = false := by simpa using h'
    simp only [intR, hd]
    rfl
  · have h' : decide (0 ≤ idxA (ratT q) 47 0) = false := h
    rw [hsl] at h'
    have hd : decide (q.den = 1) = true := by simpa using h'
    have et : ratT q = mns (decide (q.num < 0)) (decDigits q.num.natAbs) := by
      rw [ratT, fracT, hd, List.append_nil]
    have hR := Read_mns (decide (q.num < 0)) q.num.natAbs (by omega)
    rw [sg_num, ← et] at hR
    refine hR.mono ?_
    rintro _ rfl
    have hS := Small_t q.num
    have hi : intR q = match smallV q.num with
      | (n, true) => (n, 0)
      | (_, false) => (0, 4) := by simp only [intR, hd]
    obtain ⟨⟨r, ok⟩, hr⟩ : ∃ x, smallV q.num = x := ⟨_, rfl⟩
    rw [hr] at hS hi
    refine hS.mono ?_
    rintro _ rfl
    rw [hi]
    cases ok with
    | true =>
      refine And.intro (fun h => nomatch h) (fun _ => ?_)
      rfl
    | false =>
      refine And.intro (fun _ => ?_) (fun h => nomatch h)
      rfl
end Go.Proofs.YtlnimeapichgmaaGreatDoor
