/-
  loss.through, at, texts, tangents, chords: the sizes of what they give.
-/
import Derived.Test.YtnfgnkbgajhhbaaGreatDoorM8
set_option linter.constructorNameAsVariable false
set_option linter.unusedSimpArgs false
set_option linter.unusedVariables false
namespace Go.Proofs.YtnfgnkbgajhhbaaGreatDoor
open Go.Am Go.Tx Dv Go.Lib
set_option maxRecDepth 100000
theorem dsz {q : Rat} {k : Nat} (h : dz q k) (hk : k ≤ 2000) : szQ q 208 := fit_sz (dz_fit hk h)
abbrev pct : CT := .p qct qct
def encP (m : Rat × Rat) : pct.D := (encQ m.1, encQ m.2)
abbrev PC (m : Rat × Rat) : SV := .agg (cellsV pct (encP m))
set_option maxHeartbeats 4000000 in
theorem through_t (r p q : Rat) (hr : dz r 12) (hp : dz p 12) (hq : dz q 12) : PureOK Tryz.prog hints 90 [QR r, QR p, QR q] (fun V => V = PC (-(r * p * q), r * (p + q))) := by
  refine pure_rule (fn := Tryz.f90) (code := bodyOf Tryz.f90) tys_ok (by kernel_rfl) rfl Tryz.func90 (by kernel_rfl) (Nat.le_of_ble_eq_true (by kernel_rfl)) ?_
  have d1 := dz_mul hr hp
  have d2 := dz_mul d1 hq
  have d3 := dz_add hp hq
  refine And.intro rfl ?_
  refine And.intro rfl ?_
  refine (RMul_t r p (k := 208) (by decide) (dsz hr (by decide)) (dsz hp (by decide))).mono ?_
  rintro _ rfl
  refine And.intro rfl ?_
  refine (RMul_t (r * p) q (k := 208) (by decide) (dsz d1 (by decide)) (dsz hq (by decide))).mono ?_
  rintro _ rfl
  refine (RNegQ_t (r * p * q) (k := 208) (by decide) (dsz d2 (by decide))).mono ?_
  rintro _ rfl
  refine And.intro rfl ?_
  refine And.intro rfl ?_
  refine And.intro rfl ?_
  refine (RAdd_t p q (k := 208) (by decide) (dsz hp (by decide)) (dsz hq (by decide))).mono ?_
  rintro _ rfl
  refine (RMul_t r (p + q) (k := 208) (by decide) (dsz hr (by decide)) (dsz d3 (by decide))).mono ?_
  rintro _ rfl
  refine And.intro rfl ?_
  exact ⟨rfl, rfl⟩
set_option maxHeartbeats 4000000 in
theorem pat_t (a b f : Rat) (ha : dz a 100) (hb : dz b 100) (hf : dz f 12) : PureOK Tryz.prog hints 89 [PC (a, b), QR f] (fun V => V = QR (a + b * f)) := by
  refine pure_rule (fn := Tryz.f89) (code := bodyOf Tryz.f89) tys_ok (by kernel_rfl) rfl Tryz.func89 (by kernel_rfl) (Nat.le_of_ble_eq_true (by kernel_rfl)) ?_
  have d1 := dz_mul hb hf
  refine And.intro rfl ?_
  refine And.intro rfl ?_
  refine And.intro rfl ?_
  refine (RMul_t b f (k := 208) (by decide) (dsz hb (by decide)) (dsz hf (by decide))).mono ?_
  rintro _ rfl
  refine (RAdd_t a (b * f) (k := 208) (by decide) (dsz ha (by decide)) (dsz d1 (by decide))).mono ?_
  rintro _ rfl
  refine And.intro rfl ?_
  exact ⟨rfl, rfl⟩
def goodP (m : Rat × Rat) : Prop := dz m.1 100 ∧ dz m.2 100
theorem through_good {r p q : Rat} (hr : dz r 12) (hp : dz p 12) (hq : dz q 12) : goodP (-(r * p * q), r * (p + q)) :=
  ⟨dz_mono (by decide) (dz_neg (dz_mul (dz_mul hr hp) hq)), dz_mono (by decide) (dz_mul hr (dz_add hp hq))⟩
theorem encP_at {ms : List (Rat × Rat)} {i : Nat} (h : i < ms.length) : (ms.map encP)[i]? = some (encP ms[i]) := by
  rw [List.getElem?_map, List.getElem?_eq_getElem h]
  rfl
abbrev tct : CT := .p .s .s
set_option maxHeartbeats 8000000 in
theorem ltexts_t (ms : List (Rat × Rat)) (hl : ms.length ≤ 16) (hm : ∀ m ∈ ms, goodP m) : PureOK Tryz.prog hints 83 [.v (.l pct) (ms.map encP)] (fun V => ∃ X : List tct.D, V = .tup [.v (.l tct) X, .v (.i .i64) (0 : Int)]) := by
  refine pure_rule (fn := Tryz.f83) (code := bodyOf Tryz.f83) tys_ok (by kernel_rfl) rfl Tryz.func83 (by kernel_rfl) (Nat.le_of_ble_eq_true (by kernel_rfl)) ?_
  have hg := fun i (h : i < ms.length) => encP_at (ms := ms) h
  have hll : (ms.map encP).length = ms.length := List.length_map _
  obtain ⟨L, hL⟩ : ∃ l, ms.map encP = l := ⟨_, rfl⟩
  rw [hL] at hg hll ⊢
  refine loop_wp tys_ok rfl (fun (t : Nat × List tct.D) => [(4, .ref 0 0 t.1 none), (11, .v (.l pct) L), (12, .v (.i .i64) (L.length : Int)), (13, .v (.i .i64) (t.1 : Int))]) (fun t => [.row tct t.2 true])
    (fun t => t.1 ≤ ms.length ∧ t.2.length = t.1) (fun t => ms.length - t.1) ?_ (0, []) ?_ ?_
  · rintro ⟨i, outs⟩ ⟨hi, ho⟩
    simp only at hi ho
    refine And.intro (fun h => ?_) (fun h => ?_)
    · have hlt : i < ms.length := by have h' : (i : Int) < (L.length : Int) := of_decide_eq_true h; omega
      have gx : L[(i : Int).toNat]? = some (encP ms[i]) := by rw [Int.toNat_natCast]; exact hg i hlt
      have gm := hm ms[i] (List.getElem_mem hlt)
      obtain ⟨⟨a, b⟩, hab⟩ : ∃ x, ms[i] = x := ⟨_, rfl⟩
      rw [hab] at gx gm
      have w2 : IntKind.i64.wrap ((i : Int) + 1) = ((i + 1 : Nat) : Int) := wrap64 (by omega) (by omega)
      have ta := ltext_t a
      have tb := ltext_t b
      rw [ratR_dz (by decide : 100 ≤ 2000) gm.1] at ta
      rw [ratR_dz (by decide : 100 ≤ 2000) gm.2] at tb
      obtain ⟨x, hx⟩ : ∃ x, ratT a = x := ⟨_, rfl⟩
      obtain ⟨y, hy⟩ : ∃ y, ratT b = y := ⟨_, rfl⟩
      rw [hx] at ta
      rw [hy] at tb
      refine ⟨encP (a, b), Int.natCast_nonneg i, gx, ?_⟩
      refine And.intro rfl ?_
      refine And.intro rfl ?_
      refine ta.mono ?_
      rintro _ rfl
      refine And.intro rfl ?_
      refine tb.mono ?_
      rintro _ rfl
      repeat (first | refine wpg_skipc ?_ | refine wpg_next ?_ | refine wpg_blkout ?_)
      first | refine wpg_seq (wpg_region (id := 7) rfl ?_) | refine wpg_seq (wpg_seq (wpg_region (id := 7) rfl ?_)) | refine wpg_region (id := 7) rfl ?_ | refine wpg_seq (wpg_block rfl (wpg_seq (wpg_region (id := 7) rfl ?_))) | refine wpg_block rfl (wpg_seq (wpg_region (id := 7) rfl ?_))
      refine wpg_v rfl (fun _ => rfl) rfl rfl ?_
      refine wpg_v rfl (fun _ => rfl) rfl rfl ?_
      refine wpg_v rfl (fun _ => rfl) rfl rfl ?_
      refine wpg_vg rfl rfl rfl rfl (fun _ => rfl) rfl rfl ?_
      refine wpg_vg rfl rfl rfl rfl (fun _ => rfl) rfl rfl ?_
      refine wpg_pf rfl rfl rfl rfl rfl rfl rfl ?_
      refine wpg_nil ?_
      repeat (first | refine wpg_next ?_ | refine wpg_blkout ?_)
      refine And.intro (fun h => by cases h) (fun _ => ?_)
      refine And.intro (show 0 + 1 ≤ 1 by decide) ?_
      refine And.intro (show 0 + i ≤ outs.length by omega) ?_
      refine And.intro (show (i + (0 + 1)) * 32 ≤ 140737488355328 by omega) ?_
      have eo : outs ++ [(x, y)] = sub outs 0 i ++ [(x, y)] := by
        have : sub outs 0 i = outs := by
          show (outs.drop 0).take i = _
          rw [List.drop_zero, List.take_of_length_le (by omega)]
        rw [this]
      refine ⟨(i + 1, outs ++ [(x, y)]), ⟨hlt, by show (outs ++ [(x, y)]).length = i + 1; rw [List.length_append, ho]; rfl⟩, by show ms.length - (i + 1) < ms.length - i; omega, ?_⟩
      refine ent_of rfl rfl ?_ ?_
      · exact ⟨⟨rfl, rfl, rfl⟩, rfl, rfl, w2.symm, trivial⟩
      · exact ⟨⟨eo, fun _ => rfl⟩, trivial⟩
    · exact ⟨by show 0 + i ≤ outs.length; omega, _, rfl⟩
  · exact ⟨Nat.zero_le _, rfl⟩
  · refine ent_of rfl rfl ?_ ?_
    · exact ⟨⟨rfl, rfl, rfl⟩, rfl, rfl, rfl, trivial⟩
    · exact ⟨rfl, trivial⟩
abbrev cellQ (r : Rat) : SM := .cell [.v .b (decide (r.num < 0)), u32s (wOf r.num.natAbs), .v .b (decide ((r.den : Int) < 0)), u32s (wOf (r.den : Int).natAbs)] true
theorem map_snoc {ms : List (Rat × Rat)} {m : Rat × Rat} {i : Nat} (h : ms.length = i) : (ms ++ [m]).map encP = sub (ms.map encP) 0 i ++ [encP m] := by
  have : sub (ms.map encP) 0 i = ms.map encP := by
    show ((ms.map encP).drop 0).take i = _
    rw [List.drop_zero, List.take_of_length_le (by simp [h])]
  rw [this, List.map_append]
  rfl
theorem good_snoc {ms : List (Rat × Rat)} {m : Rat × Rat} (h : ∀ x ∈ ms, goodP x) (hm : goodP m) : ∀ x ∈ ms ++ [m], goodP x := fun x hx => by
  rcases List.mem_append.1 hx with hx | hx
  · exact h x hx
  · rw [List.mem_singleton.1 hx]; exact hm
theorem sub_all {α : Type} (l : List α) {n : Nat} (h : l.length = n) : sub l 0 n = l := by
  show (l.drop 0).take n = _
  rw [List.drop_zero, List.take_of_length_le (by omega)]
set_option maxHeartbeats 8000000 in
theorem ltangents_t (r : Rat) (ps : List Rat) (hl : ps.length ≤ 16) (hr : dz r 12) (hp : ∀ p ∈ ps, dz p 12) : PureOK Tryz.prog hints 84 [QR r, .v (.l qct) (sub (ps.map encQ) 0 ps.length)] (fun V => ∃ ms : List (Rat × Rat), V = .v (.l pct) (ms.map encP) ∧ ms.length ≤ 16 ∧ ∀ m ∈ ms, goodP m) := by
  rw [sub_all _ (List.length_map _)]
  refine pure_rule (fn := Tryz.f84) (code := bodyOf Tryz.f84) tys_ok (by kernel_rfl) rfl Tryz.func84 (by kernel_rfl) (Nat.le_of_ble_eq_true (by kernel_rfl)) ?_
  have hg := fun i (h : i < ps.length) => QL_at (ps := ps) h
  have hll : (ps.map encQ).length = ps.length := List.length_map _
  obtain ⟨L, hL⟩ : ∃ l, ps.map encQ = l := ⟨_, rfl⟩
  rw [hL] at hg hll ⊢
  refine loop_wp tys_ok rfl (fun (t : Nat × List (Rat × Rat)) => [(2, .ptr 0 0 0), (5, .ref 1 0 t.1 none), (8, .v (.l qct) L), (9, .v (.i .i64) (L.length : Int)), (10, .v (.i .i64) (t.1 : Int))]) (fun t => [cellQ r, .row pct (t.2.map encP) true])
    (fun t => t.1 ≤ ps.length ∧ t.2.length = t.1 ∧ ∀ m ∈ t.2, goodP m) (fun t => ps.length - t.1) ?_ (0, []) ?_ ?_
  · rintro ⟨i, ms⟩ ⟨hi, ho, hm⟩
    simp only at hi ho hm
    refine And.intro (fun h => ?_) (fun h => ?_)
    · have hlt : i < ps.length := by have h' : (i : Int) < (L.length : Int) := of_decide_eq_true h; omega
      have gx : L[(i : Int).toNat]? = some (encQ ps[i]) := by rw [Int.toNat_natCast]; exact hg i hlt
      have gp := hp ps[i] (List.getElem_mem hlt)
      obtain ⟨p, hp0⟩ : ∃ x, ps[i] = x := ⟨_, rfl⟩
      rw [hp0] at gx gp
      have w2 : IntKind.i64.wrap ((i : Int) + 1) = ((i + 1 : Nat) : Int) := wrap64 (by omega) (by omega)
      have gd := through_good hr gp gp
      refine ⟨encQ p, Int.natCast_nonneg i, gx, ?_⟩
      refine And.intro rfl ?_
      refine And.intro rfl ?_
      refine And.intro rfl ?_
      refine And.intro rfl ?_
      refine (through_t r p p hr gp gp).mono ?_
      rintro _ rfl
      obtain ⟨m, hme⟩ : ∃ m, (-(r * p * p), r * (p + p)) = m := ⟨_, rfl⟩
      rw [hme] at gd ⊢
      refine And.intro (show 0 + 1 ≤ 1 by decide) ?_
      refine And.intro (show 0 + i ≤ (ms.map encP).length by simp [ho]) ?_
      refine And.intro (show (i + (0 + 1)) * 128 ≤ 140737488355328 by omega) ?_
      refine ⟨(i + 1, ms ++ [m]), ⟨hlt, by show (ms ++ [m]).length = i + 1; rw [List.length_append, ho]; rfl, good_snoc hm gd⟩, by show ps.length - (i + 1) < ps.length - i; omega, ?_⟩
      refine ent_of rfl rfl ?_ ?_
      · exact ⟨⟨rfl, rfl⟩, ⟨rfl, rfl, rfl⟩, rfl, rfl, w2.symm, trivial⟩
      · exact ⟨⟨⟨rfl, rfl, rfl, rfl, trivial⟩, fun _ => rfl⟩, ⟨map_snoc ho, fun _ => rfl⟩, trivial⟩
    · refine ⟨by show 0 + i ≤ (ms.map encP).length; simp [ho], ms, ?_, by omega, hm⟩
      show SV.v (.l pct) (sub (ms.map encP) 0 i) = _
      rw [sub_all _ (by simp [ho])]
  · exact ⟨Nat.zero_le _, rfl, fun _ h => absurd h List.not_mem_nil⟩
  · refine ent_of rfl rfl ?_ ?_
    · exact ⟨⟨rfl, rfl⟩, ⟨rfl, rfl, rfl⟩, rfl, rfl, rfl, trivial⟩
    · exact ⟨⟨⟨rfl, rfl, rfl, rfl, trivial⟩, fun _ => rfl⟩, rfl, trivial⟩
set_option maxHeartbeats 8000000 in
theorem lchords_t (r : Rat) (ps : List Rat) (hl : ps.length ≤ 16) (h2 : 2 ≤ ps.length) (hr : dz r 12) (hp : ∀ p ∈ ps, dz p 12) : PureOK Tryz.prog hints 85 [QR r, .v (.l qct) (sub (ps.map encQ) 0 ps.length)] (fun V => ∃ ms : List (Rat × Rat), V = .v (.l pct) (ms.map encP) ∧ ms.length ≤ 16 ∧ ∀ m ∈ ms, goodP m) := by
  rw [sub_all _ (List.length_map _)]
  refine pure_rule (fn := Tryz.f85) (code := bodyOf Tryz.f85) tys_ok (by kernel_rfl) rfl Tryz.func85 (by kernel_rfl) (Nat.le_of_ble_eq_true (by kernel_rfl)) ?_
  have hg := fun i (h : i < ps.length) => QL_at (ps := ps) h
  have hll : (ps.map encQ).length = ps.length := List.length_map _
  obtain ⟨L, hL⟩ : ∃ l, ps.map encQ = l := ⟨_, rfl⟩
  rw [hL] at hg hll ⊢
  refine loop_wp tys_ok rfl (fun (t : Nat × List (Rat × Rat)) => [(1, .v (.l qct) L), (2, .ptr 0 0 0), (5, .ref 1 0 t.1 none), (6, .v (.i .i64) ((t.1 + 1 : Nat) : Int))]) (fun t => [cellQ r, .row pct (t.2.map encP) true])
    (fun t => t.1 + 1 ≤ ps.length ∧ t.2.length = t.1 ∧ ∀ m ∈ t.2, goodP m) (fun t => ps.length - t.1) ?_ (0, []) ?_ ?_
  · rintro ⟨i, ms⟩ ⟨hi, ho, hm⟩
    simp only at hi ho hm
    refine And.intro (fun h => ?_) (fun h => ?_)
    · have hlt : i + 1 < ps.length := by have h' : ((i + 1 : Nat) : Int) < (L.length : Int) := of_decide_eq_true h; omega
      have w1 : IntKind.i64.wrap (((i + 1 : Nat) : Int) - 1) = (i : Int) := by rw [wrap64 (by omega) (by omega)]; omega
      have gx : L[(IntKind.i64.wrap (((i + 1 : Nat) : Int) - 1)).toNat]? = some (encQ (ps[i]'(by omega))) := by rw [w1, Int.toNat_natCast]; exact hg i (by omega)
      have gy : L[((i + 1 : Nat) : Int).toNat]? = some (encQ ps[i + 1]) := by rw [Int.toNat_natCast]; exact hg (i + 1) hlt
      have gp := hp (ps[i]'(by omega)) (List.getElem_mem _)
      have gq := hp ps[i + 1] (List.getElem_mem hlt)
      obtain ⟨p, hp0⟩ : ∃ x, ps[i]'(by omega) = x := ⟨_, rfl⟩
      obtain ⟨q, hq0⟩ : ∃ x, ps[i + 1] = x := ⟨_, rfl⟩
      rw [hp0] at gx gp
      rw [hq0] at gy gq
      have hn : (0 : Int) ≤ IntKind.i64.wrap (((i + 1 : Nat) : Int) - 1) := by rw [w1]; exact Int.natCast_nonneg i
      have w2 : IntKind.i64.wrap (((i + 1 : Nat) : Int) + 1) = ((i + 1 + 1 : Nat) : Int) := wrap64 (by omega) (by omega)
      have gd := through_good hr gp gq
      refine And.intro rfl ?_
      refine ⟨encQ p, hn, gx, ?_⟩
      refine ⟨encQ q, Int.natCast_nonneg _, gy, ?_⟩
      refine (through_t r p q hr gp gq).mono ?_
      rintro _ rfl
      obtain ⟨m, hme⟩ : ∃ m, (-(r * p * q), r * (p + q)) = m := ⟨_, rfl⟩
      rw [hme] at gd ⊢
      refine And.intro (show 0 + 1 ≤ 1 by decide) ?_
      refine And.intro (show 0 + i ≤ (ms.map encP).length by simp [ho]) ?_
      refine And.intro (show (i + (0 + 1)) * 128 ≤ 140737488355328 by omega) ?_
      refine ⟨(i + 1, ms ++ [m]), ⟨hlt, by show (ms ++ [m]).length = i + 1; rw [List.length_append, ho]; rfl, good_snoc hm gd⟩, by show ps.length - (i + 1) < ps.length - i; omega, ?_⟩
      refine ent_of rfl rfl ?_ ?_
      · exact ⟨rfl, ⟨rfl, rfl⟩, ⟨rfl, rfl, rfl⟩, w2.symm, trivial⟩
      · exact ⟨⟨⟨rfl, rfl, rfl, rfl, trivial⟩, fun _ => rfl⟩, ⟨map_snoc ho, fun _ => rfl⟩, trivial⟩
    · refine ⟨by show 0 + i ≤ (ms.map encP).length; simp [ho], ms, ?_, by omega, hm⟩
      show SV.v (.l pct) (sub (ms.map encP) 0 i) = _
      rw [sub_all _ (by simp [ho])]
  · exact ⟨by show 0 + 1 ≤ ps.length; omega, rfl, fun _ h => absurd h List.not_mem_nil⟩
  · refine ent_of rfl rfl ?_ ?_
    · exact ⟨rfl, ⟨rfl, rfl⟩, ⟨rfl, rfl, rfl⟩, rfl, trivial⟩
    · exact ⟨⟨⟨rfl, rfl, rfl, rfl, trivial⟩, fun _ => rfl⟩, rfl, trivial⟩
end Go.Proofs.YtnfgnkbgajhhbaaGreatDoor