/-
 Library functions of the shelf at this dump (written by the kit's plain mode of its one command).
-/
import Derived.Shelf.LaysM
import Derived.Shelf.Strconv.Itoa1
import Derived.Shelf.Strconv.Itoa2
import Derived.Shelf.Strings.BuilderK
import Derived.Shelf.Small.Bits
import Derived.Shelf.Strings.Search3
import Derived.Shelf.Pu.ParseUintPublic10
import Derived.Ground.FneProg
import Derived.Ground.MpProg
import Derived.Test.YtnfgnkbgajhhbaaGreatDoorDe
set_option linter.constructorNameAsVariable false
set_option linter.unusedSimpArgs false
set_option linter.unusedVariables false
namespace Go.Proofs
open Go.Shelf
def Tryz.lays283_ren : Go.Shelf.Ren := ⟨fun | 283 => 149 | n => n, fun | 3 => 3 | 9 => 9 | 4 => 4 | n => n, fun | n => n⟩
theorem Tryz.lays283 : Go.Proofs.Lays.n283 Tryz.prog Tryz.lays283_ren := {
 mixed := by kernel_rfl
 f283 := Tryz.func149.trans (congrArg some (by kernel_rfl))
 t3 := Tryz.underlying3
 a3 := Tryz.isAgg3
 z3 := Tryz.sizeOf3
 v3 := Tryz.zeroValue3
 t4 := Tryz.underlying4
 a4 := Tryz.isAgg4
 z4 := Tryz.sizeOf4
 v4 := Tryz.zeroValue4
 t9 := Tryz.underlying9
 a9 := Tryz.isAgg9
 z9 := Tryz.sizeOf9
 v9 := Tryz.zeroValue9 }
def Tryz.laysM284_ren : Go.Shelf.Ren := ⟨fun | 284 => 150 | 129 => 167 | 317 => 166 | 318 => 168 | n => n, fun | 53 => 154 | 3 => 3 | 212 => 202 | 0 => 0 | 4 => 4 | 46 => 132 | 5 => 5 | 9 => 9 | n => n, fun | 17 => 1 | n => n⟩
theorem Tryz.laysM284 : Go.Proofs.LaysM.n284 Tryz.prog Tryz.laysM284_ren := {
 mixed := by kernel_rfl
 f129 := Tryz.func167.trans (congrArg some (by kernel_rfl))
 f284 := Tryz.func150.trans (congrArg some (by kernel_rfl))
 f317 := Tryz.func166.trans (congrArg some (by kernel_rfl))
 f318 := Tryz.func168.trans (congrArg some (by kernel_rfl))
 t0 := Tryz.underlying0
 a0 := Tryz.isAgg0
 z0 := Tryz.sizeOf0
 v0 := Tryz.zeroValue0
 t3 := Tryz.underlying3
 a3 := Tryz.isAgg3
 z3 := Tryz.sizeOf3
 v3 := Tryz.zeroValue3
 t4 := Tryz.underlying4
 a4 := Tryz.isAgg4
 z4 := Tryz.sizeOf4
 v4 := Tryz.zeroValue4
 t5 := Tryz.underlying5
 a5 := Tryz.isAgg5
 z5 := Tryz.sizeOf5
 v5 := Tryz.zeroValue5
 t9 := Tryz.underlying9
 a9 := Tryz.isAgg9
 z9 := Tryz.sizeOf9
 v9 := Tryz.zeroValue9
 t46 := Tryz.underlying132
 a46 := Tryz.isAgg132
 z46 := Tryz.sizeOf132
 v46 := Tryz.zeroValue132
 t53 := Tryz.underlying154
 a53 := Tryz.isAgg154
 z53 := Tryz.sizeOf154
 v53 := Tryz.zeroValue154
 t212 := Tryz.underlying202
 a212 := Tryz.isAgg202
 z212 := Tryz.sizeOf202
 v212 := Tryz.zeroValue202
 g17 := by kernel_rfl
 i0 := by kernel_rfl
 i3 := by kernel_rfl
 i4 := by kernel_rfl
 i5 := by kernel_rfl
 i9 := by kernel_rfl
 i46 := by kernel_rfl
 i53 := by kernel_rfl
 i212 := by kernel_rfl
 m17 := by kernel_rfl }
def Tryz.lays285_ren : Go.Shelf.Ren := ⟨fun | 285 => 151 | n => n, fun | 37 => 150 | 53 => 154 | 3 => 3 | 4 => 4 | 51 => 145 | 9 => 9 | 5 => 5 | 0 => 0 | n => n, fun | n => n⟩
theorem Tryz.lays285 : Go.Proofs.Lays.n285 Tryz.prog Tryz.lays285_ren := {
 mixed := by kernel_rfl
 f285 := Tryz.func151.trans (congrArg some (by kernel_rfl))
 t0 := Tryz.underlying0
 a0 := Tryz.isAgg0
 z0 := Tryz.sizeOf0
 v0 := Tryz.zeroValue0
 t3 := Tryz.underlying3
 a3 := Tryz.isAgg3
 z3 := Tryz.sizeOf3
 v3 := Tryz.zeroValue3
 t4 := Tryz.underlying4
 a4 := Tryz.isAgg4
 z4 := Tryz.sizeOf4
 v4 := Tryz.zeroValue4
 t5 := Tryz.underlying5
 a5 := Tryz.isAgg5
 z5 := Tryz.sizeOf5
 v5 := Tryz.zeroValue5
 t9 := Tryz.underlying9
 a9 := Tryz.isAgg9
 z9 := Tryz.sizeOf9
 v9 := Tryz.zeroValue9
 t37 := Tryz.underlying150
 a37 := Tryz.isAgg150
 z37 := Tryz.sizeOf150
 v37 := Tryz.zeroValue150
 t51 := Tryz.underlying145
 a51 := Tryz.isAgg145
 z51 := Tryz.sizeOf145
 v51 := Tryz.zeroValue145
 t53 := Tryz.underlying154
 a53 := Tryz.isAgg154
 z53 := Tryz.sizeOf154
 v53 := Tryz.zeroValue154 }
def Tryz.lays169_ren : Go.Shelf.Ren := ⟨fun | 169 => 124 | n => n, fun | 70 => 149 | 9 => 9 | 0 => 0 | 72 => 152 | 37 => 150 | 127 => 177 | 3 => 3 | 5 => 5 | n => n, fun | n => n⟩
theorem Tryz.lays169 : Go.Proofs.Lays.n169 Tryz.prog Tryz.lays169_ren := {
 mixed := by kernel_rfl
 f169 := Tryz.func124.trans (congrArg some (by kernel_rfl))
 t0 := Tryz.underlying0
 a0 := Tryz.isAgg0
 z0 := Tryz.sizeOf0
 v0 := Tryz.zeroValue0
 t3 := Tryz.underlying3
 a3 := Tryz.isAgg3
 z3 := Tryz.sizeOf3
 v3 := Tryz.zeroValue3
 t9 := Tryz.underlying9
 a9 := Tryz.isAgg9
 z9 := Tryz.sizeOf9
 v9 := Tryz.zeroValue9
 t37 := Tryz.underlying150
 a37 := Tryz.isAgg150
 z37 := Tryz.sizeOf150
 v37 := Tryz.zeroValue150
 t70 := Tryz.underlying149
 a70 := Tryz.isAgg149
 z70 := Tryz.sizeOf149
 v70 := Tryz.zeroValue149
 t72 := Tryz.underlying152
 a72 := Tryz.isAgg152
 z72 := Tryz.sizeOf152
 v72 := Tryz.zeroValue152
 t127 := Tryz.underlying177
 a127 := Tryz.isAgg177
 z127 := Tryz.sizeOf177
 v127 := Tryz.zeroValue177 }
def Tryz.laysPu14_ren : Go.Shelf.Ren := ⟨fun | 14 => 136 | 16 => 147 | 17 => 148 | 19 => 160 | 20 => 161 | 21 => 162 | 22 => 163 | 23 => 164 | 24 => 165 | 25 => 174 | 27 => 176 | 26 => 175 | 28 => 179 | 29 => 180 | 30 => 149 | 31 => 150 | 32 => 151 | 33 => 152 | 35 => 167 | 34 => 166 | 36 => 168 | 37 => 169 | 38 => 170 | 39 => 177 | 40 => 178 | n => n, fun | 9 => 9 | 3 => 3 | 22 => 154 | 24 => 156 | 25 => 170 | 4 => 4 | 34 => 195 | 5 => 5 | 36 => 132 | 37 => 150 | 0 => 0 | 39 => 198 | 21 => 21 | 44 => 208 | 47 => 177 | 50 => 212 | 48 => 210 | 2 => 2 | 52 => 184 | 55 => 187 | 59 => 202 | 60 => 145 | 20 => 20 | 61 => 203 | 65 => 213 | 66 => 214 | 67 => 159 | n => n, fun | 0 => 2 | 1 => 3 | 2 => 1 | 3 => 4 | 4 => 5 | n => n⟩
theorem Tryz.laysPu14 : Go.Proofs.LaysPu.n14 Tryz.prog Tryz.laysPu14_ren := {
 mixed := by kernel_rfl
 f14 := Tryz.func136.trans (congrArg some (by kernel_rfl))
 f16 := Tryz.func147.trans (congrArg some (by kernel_rfl))
 f17 := Tryz.func148.trans (congrArg some (by kernel_rfl))
 f19 := Tryz.func160.trans (congrArg some (by kernel_rfl))
 f20 := Tryz.func161.trans (congrArg some (by kernel_rfl))
 f21 := Tryz.func162.trans (congrArg some (by kernel_rfl))
 f22 := Tryz.func163.trans (congrArg some (by kernel_rfl))
 f23 := Tryz.func164.trans (congrArg some (by kernel_rfl))
 f24 := Tryz.func165.trans (congrArg some (by kernel_rfl))
 f25 := Tryz.func174.trans (congrArg some (by kernel_rfl))
 f26 := Tryz.func175.trans (congrArg some (by kernel_rfl))
 f27 := Tryz.func176.trans (congrArg some (by kernel_rfl))
 f28 := Tryz.func179.trans (congrArg some (by kernel_rfl))
 f29 := Tryz.func180.trans (congrArg some (by kernel_rfl))
 f30 := Tryz.func149.trans (congrArg some (by kernel_rfl))
 f31 := Tryz.func150.trans (congrArg some (by kernel_rfl))
 f32 := Tryz.func151.trans (congrArg some (by kernel_rfl))
 f33 := Tryz.func152.trans (congrArg some (by kernel_rfl))
 f34 := Tryz.func166.trans (congrArg some (by kernel_rfl))
 f35 := Tryz.func167.trans (congrArg some (by kernel_rfl))
 f36 := Tryz.func168.trans (congrArg some (by kernel_rfl))
 f37 := Tryz.func169.trans (congrArg some (by kernel_rfl))
 f38 := Tryz.func170.trans (congrArg some (by kernel_rfl))
 f39 := Tryz.func177.trans (congrArg some (by kernel_rfl))
 f40 := Tryz.func178.trans (congrArg some (by kernel_rfl))
 t0 := Tryz.underlying0
 a0 := Tryz.isAgg0
 z0 := Tryz.sizeOf0
 v0 := Tryz.zeroValue0
 i0 := by kernel_rfl
 t2 := Tryz.underlying2
 a2 := Tryz.isAgg2
 z2 := Tryz.sizeOf2
 v2 := Tryz.zeroValue2
 i2 := by kernel_rfl
 t3 := Tryz.underlying3
 a3 := Tryz.isAgg3
 z3 := Tryz.sizeOf3
 v3 := Tryz.zeroValue3
 i3 := by kernel_rfl
 t4 := Tryz.underlying4
 a4 := Tryz.isAgg4
 z4 := Tryz.sizeOf4
 v4 := Tryz.zeroValue4
 i4 := by kernel_rfl
 t5 := Tryz.underlying5
 a5 := Tryz.isAgg5
 z5 := Tryz.sizeOf5
 v5 := Tryz.zeroValue5
 i5 := by kernel_rfl
 t9 := Tryz.underlying9
 a9 := Tryz.isAgg9
 z9 := Tryz.sizeOf9
 v9 := Tryz.zeroValue9
 i9 := by kernel_rfl
 t20 := Tryz.underlying20
 a20 := Tryz.isAgg20
 z20 := Tryz.sizeOf20
 v20 := Tryz.zeroValue20
 i20 := by kernel_rfl
 t21 := Tryz.underlying21
 a21 := Tryz.isAgg21
 z21 := Tryz.sizeOf21
 v21 := Tryz.zeroValue21
 i21 := by kernel_rfl
 t22 := Tryz.underlying154
 a22 := Tryz.isAgg154
 z22 := Tryz.sizeOf154
 v22 := Tryz.zeroValue154
 i22 := by kernel_rfl
 t24 := Tryz.underlying156
 a24 := Tryz.isAgg156
 z24 := Tryz.sizeOf156
 v24 := Tryz.zeroValue156
 i24 := by kernel_rfl
 t25 := Tryz.underlying170
 a25 := Tryz.isAgg170
 z25 := Tryz.sizeOf170
 v25 := Tryz.zeroValue170
 i25 := by kernel_rfl
 t34 := Tryz.underlying195
 a34 := Tryz.isAgg195
 z34 := Tryz.sizeOf195
 v34 := Tryz.zeroValue195
 i34 := by kernel_rfl
 c34 := by kernel_rfl
 t36 := Tryz.underlying132
 a36 := Tryz.isAgg132
 z36 := Tryz.sizeOf132
 v36 := Tryz.zeroValue132
 i36 := by kernel_rfl
 t37 := Tryz.underlying150
 a37 := Tryz.isAgg150
 z37 := Tryz.sizeOf150
 v37 := Tryz.zeroValue150
 i37 := by kernel_rfl
 t39 := Tryz.underlying198
 a39 := Tryz.isAgg198
 z39 := Tryz.sizeOf198
 v39 := Tryz.zeroValue198
 i39 := by kernel_rfl
 t44 := Tryz.underlying208
 a44 := Tryz.isAgg208
 z44 := Tryz.sizeOf208
 v44 := Tryz.zeroValue208
 i44 := by kernel_rfl
 t47 := Tryz.underlying177
 a47 := Tryz.isAgg177
 z47 := Tryz.sizeOf177
 v47 := Tryz.zeroValue177
 i47 := by kernel_rfl
 t48 := Tryz.underlying210
 a48 := Tryz.isAgg210
 z48 := Tryz.sizeOf210
 v48 := Tryz.zeroValue210
 i48 := by kernel_rfl
 t50 := Tryz.underlying212
 a50 := Tryz.isAgg212
 z50 := Tryz.sizeOf212
 v50 := Tryz.zeroValue212
 i50 := by kernel_rfl
 t52 := Tryz.underlying184
 a52 := Tryz.isAgg184
 z52 := Tryz.sizeOf184
 v52 := Tryz.zeroValue184
 i52 := by kernel_rfl
 t55 := Tryz.underlying187
 a55 := Tryz.isAgg187
 z55 := Tryz.sizeOf187
 v55 := Tryz.zeroValue187
 i55 := by kernel_rfl
 t59 := Tryz.underlying202
 a59 := Tryz.isAgg202
 z59 := Tryz.sizeOf202
 v59 := Tryz.zeroValue202
 i59 := by kernel_rfl
 t60 := Tryz.underlying145
 a60 := Tryz.isAgg145
 z60 := Tryz.sizeOf145
 v60 := Tryz.zeroValue145
 i60 := by kernel_rfl
 t61 := Tryz.underlying203
 a61 := Tryz.isAgg203
 z61 := Tryz.sizeOf203
 t65 := Tryz.underlying213
 a65 := Tryz.isAgg213
 z65 := Tryz.sizeOf213
 v65 := Tryz.zeroValue213
 i65 := by kernel_rfl
 t66 := Tryz.underlying214
 a66 := Tryz.isAgg214
 z66 := Tryz.sizeOf214
 v66 := Tryz.zeroValue214
 i66 := by kernel_rfl
 t67 := Tryz.underlying159
 a67 := Tryz.isAgg159
 z67 := Tryz.sizeOf159
 v67 := Tryz.zeroValue159
 i67 := by kernel_rfl
 g0 := by kernel_rfl
 m0 := by kernel_rfl
 g1 := by kernel_rfl
 m1 := by kernel_rfl
 g2 := by kernel_rfl
 m2 := by kernel_rfl
 g3 := by kernel_rfl
 m3 := by kernel_rfl
 g4 := by kernel_rfl
 m4 := by kernel_rfl }
def Tryz.lays219_ren : Go.Shelf.Ren := ⟨fun | 219 => 146 | 217 => 156 | 225 => 157 | 224 => 158 | 267 => 159 | 266 => 172 | 314 => 173 | n => n, fun | 9 => 9 | 3 => 3 | 4 => 4 | 5 => 5 | 46 => 132 | 146 => 172 | 51 => 145 | n => n, fun | 1 => 0 | n => n⟩
theorem Tryz.lays219 : Go.Proofs.Lays.n219 Tryz.prog Tryz.lays219_ren := {
 mixed := by kernel_rfl
 f217 := Tryz.func156.trans (congrArg some (by kernel_rfl))
 f219 := Tryz.func146.trans (congrArg some (by kernel_rfl))
 f224 := Tryz.func158.trans (congrArg some (by kernel_rfl))
 f225 := Tryz.func157.trans (congrArg some (by kernel_rfl))
 f266 := Tryz.func172.trans (congrArg some (by kernel_rfl))
 f267 := Tryz.func159.trans (congrArg some (by kernel_rfl))
 f314 := Tryz.func173.trans (congrArg some (by kernel_rfl))
 t3 := Tryz.underlying3
 a3 := Tryz.isAgg3
 z3 := Tryz.sizeOf3
 v3 := Tryz.zeroValue3
 t4 := Tryz.underlying4
 a4 := Tryz.isAgg4
 z4 := Tryz.sizeOf4
 v4 := Tryz.zeroValue4
 t5 := Tryz.underlying5
 a5 := Tryz.isAgg5
 z5 := Tryz.sizeOf5
 v5 := Tryz.zeroValue5
 t9 := Tryz.underlying9
 a9 := Tryz.isAgg9
 z9 := Tryz.sizeOf9
 v9 := Tryz.zeroValue9
 t46 := Tryz.underlying132
 a46 := Tryz.isAgg132
 z46 := Tryz.sizeOf132
 v46 := Tryz.zeroValue132
 t51 := Tryz.underlying145
 a51 := Tryz.isAgg145
 z51 := Tryz.sizeOf145
 v51 := Tryz.zeroValue145
 t146 := Tryz.underlying172
 a146 := Tryz.isAgg172
 z146 := Tryz.sizeOf172
 v146 := Tryz.zeroValue172
 g1 := by kernel_rfl }
end Go.Proofs
/-
 strconv.ParseUint at base 10 and 32 bits, at one to nine digits: a primitive.
-/
namespace Go.Proofs.YtnfgnkbgajhhbaaGreatDoor
open Go.Shelf Go.RowKit Dv Go.Am
theorem ZvH {s : List UInt8} (h : Zv8 s = true) : Dg s := by
 intro c hc
 have := List.all_eq_true.1 h c hc
 rw [Bool.and_eq_true] at this
 exact ⟨Nat.le_of_ble_eq_true this.1, Nat.le_of_ble_eq_true this.2⟩
theorem ZlG : ∀ (s : List UInt8) (n : Nat), Dg s → Zn2 n s ≤ 4294967295 → Lib.parseUintM 4294967295 n s = .ok (Zn2 n s)
 | [], n, _, _ => rfl
 | c :: s, n, h, h2 => by
  have hc := h c List.mem_cons_self
  have hs : Dg s := fun x hx => h x (List.mem_cons_of_mem _ hx)
  have hge : 10 * n + (c.toNat - 48) ≤ Zn2 n (c :: s) := by
   rw [Zc8, ZhL]
   have h1 : (10 * n + (c.toNat - 48)) * 1 ≤ (10 * n + (c.toNat - 48)) * 10 ^ s.length := Nat.mul_le_mul_left _ (Nat.one_le_pow _ _ (by decide))
   omega
  rw [Lib.parseUintM, if_pos hc, if_neg (by omega), if_neg (by omega), Zc8, show n * 10 + (c.toNat - 48) = 10 * n + (c.toNat - 48) by omega]
  exact ZlG s _ hs (by rw [← Zc8]; exact h2)
theorem ZrE {s : List UInt8} (h : Dg s) (h1 : 1 ≤ s.length) (h9 : s.length ≤ 9) : Lib.parseUintB 32 s = .ok (dec s) := by
 have hne : s ≠ [] := by rintro rfl; simp at h1
 have hlt := Zbo h
 have := Nat.pow_le_pow_right (show 0 < 10 by decide) h9
 rw [Lib.parseUintB, if_neg hne, show 2 ^ 32 - 1 = 4294967295 from rfl]
 exact ZlG s 0 h (by show dec s ≤ _; omega)
theorem Zio : ∀ qs v, parseG qs = some v → ∀ (S : Nat → Prop) w vals, (∀ b, S b → b < w.heap.size) → Laid.ok S w → LRel w S qs vals →
 Calls Tryz.prog 136 vals.toArray w fun e w' => ∃ u, e = .returned u ∧ Below w.heap.size w w' ∧ IRel w' (fun b => S b ∨ (w.heap.size ≤ b ∧ b < w'.heap.size)) v u := by
 intro qs v hv S w vals hS hL hr
 unfold parseG at hv
 split at hv
 ·rename_i s b z
  split at hv
  ·rename_i hb
   simp only [Bool.and_eq_true, decide_eq_true_eq] at hb
   obtain ⟨⟨rfl, rfl⟩, ⟨hd, h1⟩, h9⟩ := hb
   cases hv
   simp only [LRel, IRel] at hr
   obtain ⟨_, _, rfl, rfl, _, _, rfl, rfl, _, _, rfl, rfl, rfl⟩ := hr
   have h9 := Nat.le_of_ble_eq_true h9
   have hsz : s.size = s.data.toList.length := rfl
   refine (Any.strconv_ParseUint_10_at32_ok Tryz.laysPu14 s (by omega) _ (ZrE (ZvH hd) (Nat.le_of_ble_eq_true h1) h9) w).mono ?_
   rintro e w' ⟨rfl, hw⟩
   refine ⟨_, rfl, ?_, ?_⟩
   ·rcases hw with rfl | rfl
    ·exact Below.refl _ _
    ·exact Lib.bytesWorld_below _ _ _
   ·simp only [IRel]
    exact ⟨_, rfl, by simp [LRel, IRel]⟩
  ·cases hv
 ·cases hv
end Go.Proofs.YtnfgnkbgajhhbaaGreatDoor
