/-
  Library functions of the shelf at this dump (written by the kit's plain mode of its one command).
-/
import Derived.Shelf.LaysM
import Derived.Shelf.Strconv.Itoa1
import Derived.Shelf.Strconv.Itoa2
import Derived.Shelf.Strings.BuilderK
import Derived.Shelf.Small.Bits
import Derived.Shelf.Strings.Search3
import Derived.Shelf.Pu.ParseUintPublic10
import Derived.Ground.FneProg
import Derived.Ground.MpProg
import Derived.Test.YtlnimeapichgmaaGreatDoorChecked
import Derived.Test.YtlnimeapichgmaaGreatDoorDe
set_option linter.constructorNameAsVariable false
set_option linter.unusedSimpArgs false
set_option linter.unusedVariables false
namespace Go.Proofs
open Go.Shelf
def Tryz.lays283_ren : Go.Shelf.Ren := ⟨fun | 283 => 138 | n => n, fun | 3 => 3 | 9 => 9 | 4 => 4 | n => n, fun | n => n⟩
theorem Tryz.lays283 : Go.Proofs.Lays.n283 Tryz.prog Tryz.lays283_ren := {
  mixed := by kernel_rfl
  f283 := Tryz.func138.trans (congrArg some (by kernel_rfl))
  t3 := Tryz.underlying3
  a3 := Tryz.isAgg3
  z3 := Tryz.sizeOf3
  v3 := Tryz.zeroValue3
  t4 := Tryz.underlying4
  a4 := Tryz.isAgg4
  z4 := Tryz.sizeOf4
  v4 := Tryz.zeroValue4
  t9 := Tryz.underlying9
  a9 := Tryz.isAgg9
  z9 := Tryz.sizeOf9
  v9 := Tryz.zeroValue9 }
def Tryz.laysM284_ren : Go.Shelf.Ren := ⟨fun | 284 => 139 | 129 => 145 | 317 => 144 | 318 => 146 | n => n, fun | 53 => 103 | 3 => 3 | 212 => 163 | 0 => 0 | 4 => 4 | 46 => 123 | 5 => 5 | 9 => 9 | n => n, fun | 17 => 3 | n => n⟩
theorem Tryz.laysM284 : Go.Proofs.LaysM.n284 Tryz.prog Tryz.laysM284_ren := {
  mixed := by kernel_rfl
  f129 := Tryz.func145.trans (congrArg some (by kernel_rfl))
  f284 := Tryz.func139.trans (congrArg some (by kernel_rfl))
  f317 := Tryz.func144.trans (congrArg some (by kernel_rfl))
  f318 := Tryz.func146.trans (congrArg some (by kernel_rfl))
  t0 := Tryz.underlying0
  a0 := Tryz.isAgg0
  z0 := Tryz.sizeOf0
  v0 := Tryz.zeroValue0
  t3 := Tryz.underlying3
  a3 := Tryz.isAgg3
  z3 := Tryz.sizeOf3
  v3 := Tryz.zeroValue3
  t4 := Tryz.underlying4
  a4 := Tryz.isAgg4
  z4 := Tryz.sizeOf4
  v4 := Tryz.zeroValue4
  t5 := Tryz.underlying5
  a5 := Tryz.isAgg5
  z5 := Tryz.sizeOf5
  v5 := Tryz.zeroValue5
  t9 := Tryz.underlying9
  a9 := Tryz.isAgg9
  z9 := Tryz.sizeOf9
  v9 := Tryz.zeroValue9
  t46 := Tryz.underlying123
  a46 := Tryz.isAgg123
  z46 := Tryz.sizeOf123
  v46 := Tryz.zeroValue123
  t53 := Tryz.underlying103
  a53 := Tryz.isAgg103
  z53 := Tryz.sizeOf103
  v53 := Tryz.zeroValue103
  t212 := Tryz.underlying163
  a212 := Tryz.isAgg163
  z212 := Tryz.sizeOf163
  v212 := Tryz.zeroValue163
  g17 := by kernel_rfl
  i0 := by kernel_rfl
  i3 := by kernel_rfl
  i4 := by kernel_rfl
  i5 := by kernel_rfl
  i9 := by kernel_rfl
  i46 := by kernel_rfl
  i53 := by kernel_rfl
  i212 := by kernel_rfl
  m17 := by kernel_rfl }
def Tryz.lays285_ren : Go.Shelf.Ren := ⟨fun | 285 => 140 | n => n, fun | 37 => 88 | 53 => 103 | 3 => 3 | 4 => 4 | 51 => 108 | 9 => 9 | 5 => 5 | 0 => 0 | n => n, fun | n => n⟩
theorem Tryz.lays285 : Go.Proofs.Lays.n285 Tryz.prog Tryz.lays285_ren := {
  mixed := by kernel_rfl
  f285 := Tryz.func140.trans (congrArg some (by kernel_rfl))
  t0 := Tryz.underlying0
  a0 := Tryz.isAgg0
  z0 := Tryz.sizeOf0
  v0 := Tryz.zeroValue0
  t3 := Tryz.underlying3
  a3 := Tryz.isAgg3
  z3 := Tryz.sizeOf3
  v3 := Tryz.zeroValue3
  t4 := Tryz.underlying4
  a4 := Tryz.isAgg4
  z4 := Tryz.sizeOf4
  v4 := Tryz.zeroValue4
  t5 := Tryz.underlying5
  a5 := Tryz.isAgg5
  z5 := Tryz.sizeOf5
  v5 := Tryz.zeroValue5
  t9 := Tryz.underlying9
  a9 := Tryz.isAgg9
  z9 := Tryz.sizeOf9
  v9 := Tryz.zeroValue9
  t37 := Tryz.underlying88
  a37 := Tryz.isAgg88
  z37 := Tryz.sizeOf88
  v37 := Tryz.zeroValue88
  t51 := Tryz.underlying108
  a51 := Tryz.isAgg108
  z51 := Tryz.sizeOf108
  v51 := Tryz.zeroValue108
  t53 := Tryz.underlying103
  a53 := Tryz.isAgg103
  z53 := Tryz.sizeOf103
  v53 := Tryz.zeroValue103 }
def Tryz.lays169_ren : Go.Shelf.Ren := ⟨fun | 169 => 121 | n => n, fun | 70 => 131 | 9 => 9 | 0 => 0 | 72 => 133 | 37 => 88 | 127 => 147 | 3 => 3 | 5 => 5 | n => n, fun | n => n⟩
theorem Tryz.lays169 : Go.Proofs.Lays.n169 Tryz.prog Tryz.lays169_ren := {
  mixed := by kernel_rfl
  f169 := Tryz.func121.trans (congrArg some (by kernel_rfl))
  t0 := Tryz.underlying0
  a0 := Tryz.isAgg0
  z0 := Tryz.sizeOf0
  v0 := Tryz.zeroValue0
  t3 := Tryz.underlying3
  a3 := Tryz.isAgg3
  z3 := Tryz.sizeOf3
  v3 := Tryz.zeroValue3
  t9 := Tryz.underlying9
  a9 := Tryz.isAgg9
  z9 := Tryz.sizeOf9
  v9 := Tryz.zeroValue9
  t37 := Tryz.underlying88
  a37 := Tryz.isAgg88
  z37 := Tryz.sizeOf88
  v37 := Tryz.zeroValue88
  t70 := Tryz.underlying131
  a70 := Tryz.isAgg131
  z70 := Tryz.sizeOf131
  v70 := Tryz.zeroValue131
  t72 := Tryz.underlying133
  a72 := Tryz.isAgg133
  z72 := Tryz.sizeOf133
  v72 := Tryz.zeroValue133
  t127 := Tryz.underlying147
  a127 := Tryz.isAgg147
  z127 := Tryz.sizeOf147
  v127 := Tryz.zeroValue147 }
def Tryz.laysPu14_ren : Go.Shelf.Ren := ⟨fun | 14 => 95 | 16 => 112 | 17 => 113 | 19 => 124 | 20 => 125 | 21 => 126 | 22 => 127 | 23 => 128 | 24 => 129 | 25 => 135 | 27 => 137 | 26 => 136 | 28 => 143 | 29 => 149 | 30 => 138 | 31 => 139 | 32 => 140 | 33 => 141 | 35 => 145 | 34 => 144 | 36 => 146 | 37 => 147 | 38 => 148 | 39 => 150 | 40 => 151 | n => n, fun | 9 => 9 | 3 => 3 | 22 => 103 | 24 => 105 | 25 => 106 | 4 => 4 | 34 => 140 | 5 => 5 | 36 => 123 | 37 => 88 | 0 => 0 | 39 => 142 | 21 => 21 | 44 => 149 | 47 => 147 | 50 => 161 | 48 => 159 | 2 => 2 | 52 => 152 | 55 => 155 | 59 => 163 | 60 => 108 | 20 => 20 | 61 => 164 | 65 => 168 | 66 => 169 | 67 => 137 | n => n, fun | 0 => 1 | 1 => 2 | 2 => 3 | 3 => 4 | 4 => 5 | n => n⟩
theorem Tryz.laysPu14 : Go.Proofs.LaysPu.n14 Tryz.prog Tryz.laysPu14_ren := {
  mixed := by kernel_rfl
  f14 := Tryz.func95.trans (congrArg some (by kernel_rfl))
  f16 := Tryz.func112.trans (congrArg some (by kernel_rfl))
  f17 := Tryz.func113.trans (congrArg some (by kernel_rfl))
  f19 := Tryz.func124.trans (congrArg some (by kernel_rfl))
  f20 := Tryz.func125.trans (congrArg some (by kernel_rfl))
  f21 := Tryz.func126.trans (congrArg some (by kernel_rfl))
  f22 := Tryz.func127.trans (congrArg some (by kernel_rfl))
  f23 := Tryz.func128.trans (congrArg some (by kernel_rfl))
  f24 := Tryz.func129.trans (congrArg some (by kernel_rfl))
  f25 := Tryz.func135.trans (congrArg some (by kernel_rfl))
  f26 := Tryz.func136.trans (congrArg some (by kernel_rfl))
  f27 := Tryz.func137.trans (congrArg some (by kernel_rfl))
  f28 := Tryz.func143.trans (congrArg some (by kernel_rfl))
  f29 := Tryz.func149.trans (congrArg some (by kernel_rfl))
  f30 := Tryz.func138.trans (congrArg some (by kernel_rfl))
  f31 := Tryz.func139.trans (congrArg some (by kernel_rfl))
  f32 := Tryz.func140.trans (congrArg some (by kernel_rfl))
  f33 := Tryz.func141.trans (congrArg some (by kernel_rfl))
  f34 := Tryz.func144.trans (congrArg some (by kernel_rfl))
  f35 := Tryz.func145.trans (congrArg some (by kernel_rfl))
  f36 := Tryz.func146.trans (congrArg some (by kernel_rfl))
  f37 := Tryz.func147.trans (congrArg some (by kernel_rfl))
  f38 := Tryz.func148.trans (congrArg some (by kernel_rfl))
  f39 := Tryz.func150.trans (congrArg some (by kernel_rfl))
  f40 := Tryz.func151.trans (congrArg some (by kernel_rfl))
  t0 := Tryz.underlying0
  a0 := Tryz.isAgg0
  z0 := Tryz.sizeOf0
  v0 := Tryz.zeroValue0
  i0 := by kernel_rfl
  t2 := Tryz.underlying2
  a2 := Tryz.isAgg2
  z2 := Tryz.sizeOf2
  v2 := Tryz.zeroValue2
  i2 := by kernel_rfl
  t3 := Tryz.underlying3
  a3 := Tryz.isAgg3
  z3 := Tryz.sizeOf3
  v3 := Tryz.zeroValue3
  i3 := by kernel_rfl
  t4 := Tryz.underlying4
  a4 := Tryz.isAgg4
  z4 := Tryz.sizeOf4
  v4 := Tryz.zeroValue4
  i4 := by kernel_rfl
  t5 := Tryz.underlying5
  a5 := Tryz.isAgg5
  z5 := Tryz.sizeOf5
  v5 := Tryz.zeroValue5
  i5 := by kernel_rfl
  t9 := Tryz.underlying9
  a9 := Tryz.isAgg9
  z9 := Tryz.sizeOf9
  v9 := Tryz.zeroValue9
  i9 := by kernel_rfl
  t20 := Tryz.underlying20
  a20 := Tryz.isAgg20
  z20 := Tryz.sizeOf20
  v20 := Tryz.zeroValue20
  i20 := by kernel_rfl
  t21 := Tryz.underlying21
  a21 := Tryz.isAgg21
  z21 := Tryz.sizeOf21
  v21 := Tryz.zeroValue21
  i21 := by kernel_rfl
  t22 := Tryz.underlying103
  a22 := Tryz.isAgg103
  z22 := Tryz.sizeOf103
  v22 := Tryz.zeroValue103
  i22 := by kernel_rfl
  t24 := Tryz.underlying105
  a24 := Tryz.isAgg105
  z24 := Tryz.sizeOf105
  v24 := Tryz.zeroValue105
  i24 := by kernel_rfl
  t25 := Tryz.underlying106
  a25 := Tryz.isAgg106
  z25 := Tryz.sizeOf106
  v25 := Tryz.zeroValue106
  i25 := by kernel_rfl
  t34 := Tryz.underlying140
  a34 := Tryz.isAgg140
  z34 := Tryz.sizeOf140
  v34 := Tryz.zeroValue140
  i34 := by kernel_rfl
  c34 := by kernel_rfl
  t36 := Tryz.underlying123
  a36 := Tryz.isAgg123
  z36 := Tryz.sizeOf123
  v36 := Tryz.zeroValue123
  i36 := by kernel_rfl
  t37 := Tryz.underlying88
  a37 := Tryz.isAgg88
  z37 := Tryz.sizeOf88
  v37 := Tryz.zeroValue88
  i37 := by kernel_rfl
  t39 := Tryz.underlying142
  a39 := Tryz.isAgg142
  z39 := Tryz.sizeOf142
  v39 := Tryz.zeroValue142
  i39 := by kernel_rfl
  t44 := Tryz.underlying149
  a44 := Tryz.isAgg149
  z44 := Tryz.sizeOf149
  v44 := Tryz.zeroValue149
  i44 := by kernel_rfl
  t47 := Tryz.underlying147
  a47 := Tryz.isAgg147
  z47 := Tryz.sizeOf147
  v47 := Tryz.zeroValue147
  i47 := by kernel_rfl
  t48 := Tryz.underlying159
  a48 := Tryz.isAgg159
  z48 := Tryz.sizeOf159
  v48 := Tryz.zeroValue159
  i48 := by kernel_rfl
  t50 := Tryz.underlying161
  a50 := Tryz.isAgg161
  z50 := Tryz.sizeOf161
  v50 := Tryz.zeroValue161
  i50 := by kernel_rfl
  t52 := Tryz.underlying152
  a52 := Tryz.isAgg152
  z52 := Tryz.sizeOf152
  v52 := Tryz.zeroValue152
  i52 := by kernel_rfl
  t55 := Tryz.underlying155
  a55 := Tryz.isAgg155
  z55 := Tryz.sizeOf155
  v55 := Tryz.zeroValue155
  i55 := by kernel_rfl
  t59 := Tryz.underlying163
  a59 := Tryz.isAgg163
  z59 := Tryz.sizeOf163
  v59 := Tryz.zeroValue163
  i59 := by kernel_rfl
  t60 := Tryz.underlying108
  a60 := Tryz.isAgg108
  z60 := Tryz.sizeOf108
  v60 := Tryz.zeroValue108
  i60 := by kernel_rfl
  t61 := Tryz.underlying164
  a61 := Tryz.isAgg164
  z61 := Tryz.sizeOf164
  t65 := Tryz.underlying168
  a65 := Tryz.isAgg168
  z65 := Tryz.sizeOf168
  v65 := Tryz.zeroValue168
  i65 := by kernel_rfl
  t66 := Tryz.underlying169
  a66 := Tryz.isAgg169
  z66 := Tryz.sizeOf169
  v66 := Tryz.zeroValue169
  i66 := by kernel_rfl
  t67 := Tryz.underlying137
  a67 := Tryz.isAgg137
  z67 := Tryz.sizeOf137
  v67 := Tryz.zeroValue137
  i67 := by kernel_rfl
  g0 := by kernel_rfl
  m0 := by kernel_rfl
  g1 := by kernel_rfl
  m1 := by kernel_rfl
  g2 := by kernel_rfl
  m2 := by kernel_rfl
  g3 := by kernel_rfl
  m3 := by kernel_rfl
  g4 := by kernel_rfl
  m4 := by kernel_rfl }
def Tryz.lays143_ren : Go.Shelf.Ren := ⟨fun | 143 => 93 | 219 => 103 | 217 => 114 | 225 => 115 | 224 => 116 | 267 => 117 | 266 => 130 | 314 => 131 | n => n, fun | 9 => 9 | 3 => 3 | 4 => 4 | 5 => 5 | 46 => 123 | 146 => 145 | 51 => 108 | n => n, fun | 1 => 0 | n => n⟩
theorem Tryz.lays143 : Go.Proofs.Lays.n143 Tryz.prog Tryz.lays143_ren := {
  mixed := by kernel_rfl
  f143 := Tryz.func93.trans (congrArg some (by kernel_rfl))
  f217 := Tryz.func114.trans (congrArg some (by kernel_rfl))
  f219 := Tryz.func103.trans (congrArg some (by kernel_rfl))
  f224 := Tryz.func116.trans (congrArg some (by kernel_rfl))
  f225 := Tryz.func115.trans (congrArg some (by kernel_rfl))
  f266 := Tryz.func130.trans (congrArg some (by kernel_rfl))
  f267 := Tryz.func117.trans (congrArg some (by kernel_rfl))
  f314 := Tryz.func131.trans (congrArg some (by kernel_rfl))
  t3 := Tryz.underlying3
  a3 := Tryz.isAgg3
  z3 := Tryz.sizeOf3
  v3 := Tryz.zeroValue3
  t4 := Tryz.underlying4
  a4 := Tryz.isAgg4
  z4 := Tryz.sizeOf4
  v4 := Tryz.zeroValue4
  t5 := Tryz.underlying5
  a5 := Tryz.isAgg5
  z5 := Tryz.sizeOf5
  v5 := Tryz.zeroValue5
  t9 := Tryz.underlying9
  a9 := Tryz.isAgg9
  z9 := Tryz.sizeOf9
  v9 := Tryz.zeroValue9
  t46 := Tryz.underlying123
  a46 := Tryz.isAgg123
  z46 := Tryz.sizeOf123
  v46 := Tryz.zeroValue123
  t51 := Tryz.underlying108
  a51 := Tryz.isAgg108
  z51 := Tryz.sizeOf108
  v51 := Tryz.zeroValue108
  t146 := Tryz.underlying145
  a146 := Tryz.isAgg145
  z146 := Tryz.sizeOf145
  v146 := Tryz.zeroValue145
  g1 := by kernel_rfl }
end Go.Proofs

/-
  strconv.ParseUint at base 10 and 32 bits, at one to nine digits: a primitive.
-/
set_option linter.unusedSimpArgs false
set_option linter.unusedVariables false
namespace Go.Proofs.YtlnimeapichgmaaGreatDoor
open Go.Shelf Go.RowKit Dv Go.Am
theorem digB_dg {s : List UInt8} (h : digB s = true) : Dg s := by
  intro c hc
  have := List.all_eq_true.1 h c hc
  rw [Bool.and_eq_true] at this
  exact ⟨Nat.le_of_ble_eq_true this.1, Nat.le_of_ble_eq_true this.2⟩
theorem parseM_eq : ∀ (s : List UInt8) (n : Nat), Dg s → decA n s ≤ 4294967295 → Lib.parseUintM 4294967295 n s = .ok (decA n s)
  | [], n, _, _ => rfl
  | c :: s, n, h, h2 => by
    have hc := h c List.mem_cons_self
    have hs : Dg s := fun x hx => h x (List.mem_cons_of_mem _ hx)
    have hge : 10 * n + (c.toNat - 48) ≤ decA n (c :: s) := by
      rw [decA_cons, decA_eq]
      have h1 : (10 * n + (c.toNat - 48)) * 1 ≤ (10 * n + (c.toNat - 48)) * 10 ^ s.length := Nat.mul_le_mul_left _ (Nat.one_le_pow _ _ (by decide))
      omega
    rw [Lib.parseUintM, if_pos hc, if_neg (by omega), if_neg (by omega), decA_cons, show n * 10 + (c.toNat - 48) = 10 * n + (c.toNat - 48) by omega]
    exact parseM_eq s _ hs (by rw [← decA_cons]; exact h2)
theorem parseB_eq {s : List UInt8} (h : Dg s) (h1 : 1 ≤ s.length) (h9 : s.length ≤ 9) : Lib.parseUintB 32 s = .ok (dec s) := by
  have hne : s ≠ [] := by rintro rfl; simp at h1
  have hlt := dec_lt h
  have := Nat.pow_le_pow_right (show 0 < 10 by decide) h9
  rw [Lib.parseUintB, if_neg hne, show 2 ^ 32 - 1 = 4294967295 from rfl]
  exact parseM_eq s 0 h (by show dec s ≤ _; omega)
theorem parse_sound : ∀ qs v, parseG qs = some v → ∀ (S : Nat → Prop) w vals, (∀ b, S b → b < w.heap.size) → Laid.ok S w → LRel w S qs vals →
    Calls Tryz.prog 95 vals.toArray w fun e w' => ∃ u, e = .returned u ∧ Below w.heap.size w w' ∧ IRel w' (fun b => S b ∨ (w.heap.size ≤ b ∧ b < w'.heap.size)) v u := by
  intro qs v hv S w vals hS hL hr
  unfold parseG at hv
  split at hv
  · rename_i s b z
    split at hv
    · rename_i hb
      simp only [Bool.and_eq_true, decide_eq_true_eq] at hb
      obtain ⟨⟨rfl, rfl⟩, ⟨hd, h1⟩, h9⟩ := hb
      cases hv
      simp only [LRel, IRel] at hr
      obtain ⟨_, _, rfl, rfl, _, _, rfl, rfl, _, _, rfl, rfl, rfl⟩ := hr
      have h9 := Nat.le_of_ble_eq_true h9
      have hsz : s.size = s.data.toList.length := rfl
      refine (Any.strconv_ParseUint_10_at32_ok Tryz.laysPu14 s (by omega) _ (parseB_eq (digB_dg hd) (Nat.le_of_ble_eq_true h1) h9) w).mono ?_
      rintro e w' ⟨rfl, hw⟩
      refine ⟨_, rfl, ?_, ?_⟩
      · rcases hw with rfl | rfl
        · exact Below.refl _ _
        · exact Lib.bytesWorld_below _ _ _
      · simp only [IRel]
        exact ⟨_, rfl, by simp [LRel, IRel]⟩
    · cases hv
  · cases hv
end Go.Proofs.YtlnimeapichgmaaGreatDoor
