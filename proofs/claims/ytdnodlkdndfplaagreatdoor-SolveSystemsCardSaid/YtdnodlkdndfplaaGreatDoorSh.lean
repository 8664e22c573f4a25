/-
 Library functions of the shelf at this dump (written by the kit's plain mode of its one command).
-/
import Derived.Shelf.LaysM
import Derived.Shelf.Strconv.Itoa1
import Derived.Shelf.Strconv.Itoa2
import Derived.Shelf.Strings.BuilderK
import Derived.Shelf.Small.Bits
import Derived.Shelf.Strings.Search3
import Derived.Shelf.Pu.ParseUintPublic10
import Derived.Ground.FneProg
import Derived.Ground.MpProg
import Derived.Test.YtdnodlkdndfplaaGreatDoorDe
set_option linter.constructorNameAsVariable false
set_option linter.unusedSimpArgs false
set_option linter.unusedVariables false
namespace Go.Proofs
open Go.Shelf
def Tryz.lays283_ren:Go.Shelf.Ren:=⟨fun|283=>186|n=>n,fun|3=>3|9=>9|4=>4|n=>n,fun|n=>n⟩
theorem Tryz.lays283:Go.Proofs.Lays.n283 Tryz.prog Tryz.lays283_ren:={
 mixed:=by kernel_rfl
 f283:=Tryz.func186.trans (congrArg some (by kernel_rfl))
 t3:=Tryz.underlying3
 a3:=Tryz.isAgg3
 z3:=Tryz.sizeOf3
 v3:=Tryz.zeroValue3
 t4:=Tryz.underlying4
 a4:=Tryz.isAgg4
 z4:=Tryz.sizeOf4
 v4:=Tryz.zeroValue4
 t9:=Tryz.underlying9
 a9:=Tryz.isAgg9
 z9:=Tryz.sizeOf9
 v9:=Tryz.zeroValue9}
def Tryz.laysM284_ren:Go.Shelf.Ren:=⟨fun|284=>187|129=>198|317=>197|318=>199|n=>n,fun|53=>172|3=>3|212=>232|0=>0|4=>4|46=>137|5=>5|9=>9|n=>n,fun|17=>3|n=>n⟩
theorem Tryz.laysM284:Go.Proofs.LaysM.n284 Tryz.prog Tryz.laysM284_ren:={
 mixed:=by kernel_rfl
 f129:=Tryz.func198.trans (congrArg some (by kernel_rfl))
 f284:=Tryz.func187.trans (congrArg some (by kernel_rfl))
 f317:=Tryz.func197.trans (congrArg some (by kernel_rfl))
 f318:=Tryz.func199.trans (congrArg some (by kernel_rfl))
 t0:=Tryz.underlying0
 a0:=Tryz.isAgg0
 z0:=Tryz.sizeOf0
 v0:=Tryz.zeroValue0
 t3:=Tryz.underlying3
 a3:=Tryz.isAgg3
 z3:=Tryz.sizeOf3
 v3:=Tryz.zeroValue3
 t4:=Tryz.underlying4
 a4:=Tryz.isAgg4
 z4:=Tryz.sizeOf4
 v4:=Tryz.zeroValue4
 t5:=Tryz.underlying5
 a5:=Tryz.isAgg5
 z5:=Tryz.sizeOf5
 v5:=Tryz.zeroValue5
 t9:=Tryz.underlying9
 a9:=Tryz.isAgg9
 z9:=Tryz.sizeOf9
 v9:=Tryz.zeroValue9
 t46:=Tryz.underlying137
 a46:=Tryz.isAgg137
 z46:=Tryz.sizeOf137
 v46:=Tryz.zeroValue137
 t53:=Tryz.underlying172
 a53:=Tryz.isAgg172
 z53:=Tryz.sizeOf172
 v53:=Tryz.zeroValue172
 t212:=Tryz.underlying232
 a212:=Tryz.isAgg232
 z212:=Tryz.sizeOf232
 v212:=Tryz.zeroValue232
 g17:=by kernel_rfl
 i0:=by kernel_rfl
 i3:=by kernel_rfl
 i4:=by kernel_rfl
 i5:=by kernel_rfl
 i9:=by kernel_rfl
 i46:=by kernel_rfl
 i53:=by kernel_rfl
 i212:=by kernel_rfl
 m17:=by kernel_rfl}
def Tryz.lays285_ren:Go.Shelf.Ren:=⟨fun|285=>188|n=>n,fun|37=>176|53=>172|3=>3|4=>4|51=>168|9=>9|5=>5|0=>0|n=>n,fun|n=>n⟩
theorem Tryz.lays285:Go.Proofs.Lays.n285 Tryz.prog Tryz.lays285_ren:={
 mixed:=by kernel_rfl
 f285:=Tryz.func188.trans (congrArg some (by kernel_rfl))
 t0:=Tryz.underlying0
 a0:=Tryz.isAgg0
 z0:=Tryz.sizeOf0
 v0:=Tryz.zeroValue0
 t3:=Tryz.underlying3
 a3:=Tryz.isAgg3
 z3:=Tryz.sizeOf3
 v3:=Tryz.zeroValue3
 t4:=Tryz.underlying4
 a4:=Tryz.isAgg4
 z4:=Tryz.sizeOf4
 v4:=Tryz.zeroValue4
 t5:=Tryz.underlying5
 a5:=Tryz.isAgg5
 z5:=Tryz.sizeOf5
 v5:=Tryz.zeroValue5
 t9:=Tryz.underlying9
 a9:=Tryz.isAgg9
 z9:=Tryz.sizeOf9
 v9:=Tryz.zeroValue9
 t37:=Tryz.underlying176
 a37:=Tryz.isAgg176
 z37:=Tryz.sizeOf176
 v37:=Tryz.zeroValue176
 t51:=Tryz.underlying168
 a51:=Tryz.isAgg168
 z51:=Tryz.sizeOf168
 v51:=Tryz.zeroValue168
 t53:=Tryz.underlying172
 a53:=Tryz.isAgg172
 z53:=Tryz.sizeOf172
 v53:=Tryz.zeroValue172}
def Tryz.lays169_ren:Go.Shelf.Ren:=⟨fun|169=>159|n=>n,fun|70=>193|9=>9|0=>0|72=>195|37=>176|127=>208|3=>3|5=>5|n=>n,fun|n=>n⟩
theorem Tryz.lays169:Go.Proofs.Lays.n169 Tryz.prog Tryz.lays169_ren:={
 mixed:=by kernel_rfl
 f169:=Tryz.func159.trans (congrArg some (by kernel_rfl))
 t0:=Tryz.underlying0
 a0:=Tryz.isAgg0
 z0:=Tryz.sizeOf0
 v0:=Tryz.zeroValue0
 t3:=Tryz.underlying3
 a3:=Tryz.isAgg3
 z3:=Tryz.sizeOf3
 v3:=Tryz.zeroValue3
 t9:=Tryz.underlying9
 a9:=Tryz.isAgg9
 z9:=Tryz.sizeOf9
 v9:=Tryz.zeroValue9
 t37:=Tryz.underlying176
 a37:=Tryz.isAgg176
 z37:=Tryz.sizeOf176
 v37:=Tryz.zeroValue176
 t70:=Tryz.underlying193
 a70:=Tryz.isAgg193
 z70:=Tryz.sizeOf193
 v70:=Tryz.zeroValue193
 t72:=Tryz.underlying195
 a72:=Tryz.isAgg195
 z72:=Tryz.sizeOf195
 v72:=Tryz.zeroValue195
 t127:=Tryz.underlying208
 a127:=Tryz.isAgg208
 z127:=Tryz.sizeOf208
 v127:=Tryz.zeroValue208}
def Tryz.laysPu14_ren:Go.Shelf.Ren:=⟨fun|14=>150|16=>169|17=>170|19=>180|20=>181|21=>182|22=>183|23=>184|24=>185|25=>194|27=>196|26=>195|28=>202|29=>205|30=>186|31=>187|32=>188|33=>189|35=>198|34=>197|36=>199|37=>200|38=>201|39=>203|40=>204|n=>n,fun|9=>9|3=>3|22=>172|24=>182|25=>183|4=>4|34=>213|5=>5|36=>137|37=>176|0=>0|39=>216|21=>21|44=>229|47=>208|50=>238|48=>236|2=>2|52=>220|55=>223|59=>232|60=>168|20=>20|61=>233|65=>240|66=>241|67=>199|n=>n,fun|0=>1|1=>2|2=>3|3=>4|4=>5|n=>n⟩
theorem Tryz.laysPu14:Go.Proofs.LaysPu.n14 Tryz.prog Tryz.laysPu14_ren:={
 mixed:=by kernel_rfl
 f14:=Tryz.func150.trans (congrArg some (by kernel_rfl))
 f16:=Tryz.func169.trans (congrArg some (by kernel_rfl))
 f17:=Tryz.func170.trans (congrArg some (by kernel_rfl))
 f19:=Tryz.func180.trans (congrArg some (by kernel_rfl))
 f20:=Tryz.func181.trans (congrArg some (by kernel_rfl))
 f21:=Tryz.func182.trans (congrArg some (by kernel_rfl))
 f22:=Tryz.func183.trans (congrArg some (by kernel_rfl))
 f23:=Tryz.func184.trans (congrArg some (by kernel_rfl))
 f24:=Tryz.func185.trans (congrArg some (by kernel_rfl))
 f25:=Tryz.func194.trans (congrArg some (by kernel_rfl))
 f26:=Tryz.func195.trans (congrArg some (by kernel_rfl))
 f27:=Tryz.func196.trans (congrArg some (by kernel_rfl))
 f28:=Tryz.func202.trans (congrArg some (by kernel_rfl))
 f29:=Tryz.func205.trans (congrArg some (by kernel_rfl))
 f30:=Tryz.func186.trans (congrArg some (by kernel_rfl))
 f31:=Tryz.func187.trans (congrArg some (by kernel_rfl))
 f32:=Tryz.func188.trans (congrArg some (by kernel_rfl))
 f33:=Tryz.func189.trans (congrArg some (by kernel_rfl))
 f34:=Tryz.func197.trans (congrArg some (by kernel_rfl))
 f35:=Tryz.func198.trans (congrArg some (by kernel_rfl))
 f36:=Tryz.func199.trans (congrArg some (by kernel_rfl))
 f37:=Tryz.func200.trans (congrArg some (by kernel_rfl))
 f38:=Tryz.func201.trans (congrArg some (by kernel_rfl))
 f39:=Tryz.func203.trans (congrArg some (by kernel_rfl))
 f40:=Tryz.func204.trans (congrArg some (by kernel_rfl))
 t0:=Tryz.underlying0
 a0:=Tryz.isAgg0
 z0:=Tryz.sizeOf0
 v0:=Tryz.zeroValue0
 i0:=by kernel_rfl
 t2:=Tryz.underlying2
 a2:=Tryz.isAgg2
 z2:=Tryz.sizeOf2
 v2:=Tryz.zeroValue2
 i2:=by kernel_rfl
 t3:=Tryz.underlying3
 a3:=Tryz.isAgg3
 z3:=Tryz.sizeOf3
 v3:=Tryz.zeroValue3
 i3:=by kernel_rfl
 t4:=Tryz.underlying4
 a4:=Tryz.isAgg4
 z4:=Tryz.sizeOf4
 v4:=Tryz.zeroValue4
 i4:=by kernel_rfl
 t5:=Tryz.underlying5
 a5:=Tryz.isAgg5
 z5:=Tryz.sizeOf5
 v5:=Tryz.zeroValue5
 i5:=by kernel_rfl
 t9:=Tryz.underlying9
 a9:=Tryz.isAgg9
 z9:=Tryz.sizeOf9
 v9:=Tryz.zeroValue9
 i9:=by kernel_rfl
 t20:=Tryz.underlying20
 a20:=Tryz.isAgg20
 z20:=Tryz.sizeOf20
 v20:=Tryz.zeroValue20
 i20:=by kernel_rfl
 t21:=Tryz.underlying21
 a21:=Tryz.isAgg21
 z21:=Tryz.sizeOf21
 v21:=Tryz.zeroValue21
 i21:=by kernel_rfl
 t22:=Tryz.underlying172
 a22:=Tryz.isAgg172
 z22:=Tryz.sizeOf172
 v22:=Tryz.zeroValue172
 i22:=by kernel_rfl
 t24:=Tryz.underlying182
 a24:=Tryz.isAgg182
 z24:=Tryz.sizeOf182
 v24:=Tryz.zeroValue182
 i24:=by kernel_rfl
 t25:=Tryz.underlying183
 a25:=Tryz.isAgg183
 z25:=Tryz.sizeOf183
 v25:=Tryz.zeroValue183
 i25:=by kernel_rfl
 t34:=Tryz.underlying213
 a34:=Tryz.isAgg213
 z34:=Tryz.sizeOf213
 v34:=Tryz.zeroValue213
 i34:=by kernel_rfl
 c34:=by kernel_rfl
 t36:=Tryz.underlying137
 a36:=Tryz.isAgg137
 z36:=Tryz.sizeOf137
 v36:=Tryz.zeroValue137
 i36:=by kernel_rfl
 t37:=Tryz.underlying176
 a37:=Tryz.isAgg176
 z37:=Tryz.sizeOf176
 v37:=Tryz.zeroValue176
 i37:=by kernel_rfl
 t39:=Tryz.underlying216
 a39:=Tryz.isAgg216
 z39:=Tryz.sizeOf216
 v39:=Tryz.zeroValue216
 i39:=by kernel_rfl
 t44:=Tryz.underlying229
 a44:=Tryz.isAgg229
 z44:=Tryz.sizeOf229
 v44:=Tryz.zeroValue229
 i44:=by kernel_rfl
 t47:=Tryz.underlying208
 a47:=Tryz.isAgg208
 z47:=Tryz.sizeOf208
 v47:=Tryz.zeroValue208
 i47:=by kernel_rfl
 t48:=Tryz.underlying236
 a48:=Tryz.isAgg236
 z48:=Tryz.sizeOf236
 v48:=Tryz.zeroValue236
 i48:=by kernel_rfl
 t50:=Tryz.underlying238
 a50:=Tryz.isAgg238
 z50:=Tryz.sizeOf238
 v50:=Tryz.zeroValue238
 i50:=by kernel_rfl
 t52:=Tryz.underlying220
 a52:=Tryz.isAgg220
 z52:=Tryz.sizeOf220
 v52:=Tryz.zeroValue220
 i52:=by kernel_rfl
 t55:=Tryz.underlying223
 a55:=Tryz.isAgg223
 z55:=Tryz.sizeOf223
 v55:=Tryz.zeroValue223
 i55:=by kernel_rfl
 t59:=Tryz.underlying232
 a59:=Tryz.isAgg232
 z59:=Tryz.sizeOf232
 v59:=Tryz.zeroValue232
 i59:=by kernel_rfl
 t60:=Tryz.underlying168
 a60:=Tryz.isAgg168
 z60:=Tryz.sizeOf168
 v60:=Tryz.zeroValue168
 i60:=by kernel_rfl
 t61:=Tryz.underlying233
 a61:=Tryz.isAgg233
 z61:=Tryz.sizeOf233
 t65:=Tryz.underlying240
 a65:=Tryz.isAgg240
 z65:=Tryz.sizeOf240
 v65:=Tryz.zeroValue240
 i65:=by kernel_rfl
 t66:=Tryz.underlying241
 a66:=Tryz.isAgg241
 z66:=Tryz.sizeOf241
 v66:=Tryz.zeroValue241
 i66:=by kernel_rfl
 t67:=Tryz.underlying199
 a67:=Tryz.isAgg199
 z67:=Tryz.sizeOf199
 v67:=Tryz.zeroValue199
 i67:=by kernel_rfl
 g0:=by kernel_rfl
 m0:=by kernel_rfl
 g1:=by kernel_rfl
 m1:=by kernel_rfl
 g2:=by kernel_rfl
 m2:=by kernel_rfl
 g3:=by kernel_rfl
 m3:=by kernel_rfl
 g4:=by kernel_rfl
 m4:=by kernel_rfl}
def Tryz.lays219_ren:Go.Shelf.Ren:=⟨fun|219=>168|217=>176|225=>177|224=>178|267=>179|266=>192|314=>193|n=>n,fun|9=>9|3=>3|4=>4|5=>5|46=>137|146=>185|51=>168|n=>n,fun|1=>0|n=>n⟩
theorem Tryz.lays219:Go.Proofs.Lays.n219 Tryz.prog Tryz.lays219_ren:={
 mixed:=by kernel_rfl
 f217:=Tryz.func176.trans (congrArg some (by kernel_rfl))
 f219:=Tryz.func168.trans (congrArg some (by kernel_rfl))
 f224:=Tryz.func178.trans (congrArg some (by kernel_rfl))
 f225:=Tryz.func177.trans (congrArg some (by kernel_rfl))
 f266:=Tryz.func192.trans (congrArg some (by kernel_rfl))
 f267:=Tryz.func179.trans (congrArg some (by kernel_rfl))
 f314:=Tryz.func193.trans (congrArg some (by kernel_rfl))
 t3:=Tryz.underlying3
 a3:=Tryz.isAgg3
 z3:=Tryz.sizeOf3
 v3:=Tryz.zeroValue3
 t4:=Tryz.underlying4
 a4:=Tryz.isAgg4
 z4:=Tryz.sizeOf4
 v4:=Tryz.zeroValue4
 t5:=Tryz.underlying5
 a5:=Tryz.isAgg5
 z5:=Tryz.sizeOf5
 v5:=Tryz.zeroValue5
 t9:=Tryz.underlying9
 a9:=Tryz.isAgg9
 z9:=Tryz.sizeOf9
 v9:=Tryz.zeroValue9
 t46:=Tryz.underlying137
 a46:=Tryz.isAgg137
 z46:=Tryz.sizeOf137
 v46:=Tryz.zeroValue137
 t51:=Tryz.underlying168
 a51:=Tryz.isAgg168
 z51:=Tryz.sizeOf168
 v51:=Tryz.zeroValue168
 t146:=Tryz.underlying185
 a146:=Tryz.isAgg185
 z146:=Tryz.sizeOf185
 v146:=Tryz.zeroValue185
 g1:=by kernel_rfl}
end Go.Proofs
/-
 strconv.ParseUint at base 10 and 32 bits, at one to nine digits: a primitive.
-/
namespace Go.Proofs.YtdnodlkdndfplaaGreatDoor
open Go.Shelf Go.RowKit Dv Go.Am
theorem ZyJ {s:List UInt8} (h:Zzk s=true):Dg s:=by
 intro c hc
 have:=List.all_eq_true.1 h c hc
 rw[Bool.and_eq_true]at this
 exact⟨Nat.le_of_ble_eq_true this.1,Nat.le_of_ble_eq_true this.2⟩
theorem Znh: ∀ (s:List UInt8) (n:Nat),Dg s→Zp4 n s≤4294967295→Lib.parseUintM 4294967295 n s= .ok (Zp4 n s)
 | [],n,_,_=>rfl
 |c::s,n,h,h2=>by
  have hc:=h c List.mem_cons_self
  have hs:Dg s:=fun x hx=>h x (List.mem_cons_of_mem _ hx)
  have hge:10*n+(c.toNat-48)≤Zp4 n (c::s):=by
   rw[ZdD,Zir]
   have h1:(10*n+(c.toNat-48))*1≤(10*n+(c.toNat-48))*10^s.length:=Nat.mul_le_mul_left _ (Nat.one_le_pow _ _ (by decide))
   omega
  rw[Lib.parseUintM,if_pos hc,if_neg (by omega),if_neg (by omega),ZdD,show n*10+(c.toNat-48)=10*n+(c.toNat-48)by omega]
  exact Znh s _ hs (by rw[←ZdD];exact h2)
theorem Zuw {s:List UInt8} (h:Dg s) (h1:1≤s.length) (h9:s.length≤9):Lib.parseUintB 32 s= .ok (dec s):=by
 have hne:s≠ []:=by rintro rfl;simp at h1
 have hlt:=ZbJ h
 have:=Nat.pow_le_pow_right (show 0<10 by decide) h9
 rw[Lib.parseUintB,if_neg hne,show 2^32-1=4294967295 from rfl]
 exact Znh s 0 h (by show dec s≤_;omega)
theorem ZiG: ∀qs v,parseG qs=some v→ ∀ (S:Nat→Prop) w vals,(∀b,S b→b<w.heap.size)→Laid.ok S w→LRel w S qs vals→
 Calls Tryz.prog 150 vals.toArray w fun e w'=> ∃u,e= .returned u∧Below w.heap.size w w'∧IRel w' (fun b=>S b∨(w.heap.size≤b∧b<w'.heap.size)) v u:=by
 intro qs v hv S w vals hS hL hr
 unfold parseG at hv
 split at hv
 ·rename_i s b z
  split at hv
  ·rename_i hb
   simp only[Bool.and_eq_true,decide_eq_true_eq]at hb
   obtain⟨⟨rfl,rfl⟩,⟨hd,h1⟩,h9⟩:=hb
   cases hv
   simp only[LRel,IRel]at hr
   obtain⟨_,_,rfl,rfl,_,_,rfl,rfl,_,_,rfl,rfl,rfl⟩:=hr
   have h9:=Nat.le_of_ble_eq_true h9
   have hsz:s.size=s.data.toList.length:=rfl
   refine(Any.strconv_ParseUint_10_at32_ok Tryz.laysPu14 s (by omega) _ (Zuw (ZyJ hd) (Nat.le_of_ble_eq_true h1) h9) w).mono ?_
   rintro e w' ⟨rfl,hw⟩
   refine⟨_,rfl, ?_, ?_⟩
   ·rcases hw with rfl|rfl
    ·exact Below.refl _ _
    ·exact Lib.bytesWorld_below _ _ _
   ·simp only[IRel]
    exact⟨_,rfl,by simp[LRel,IRel]⟩
  ·cases hv
 ·cases hv
end Go.Proofs.YtdnodlkdndfplaaGreatDoor
