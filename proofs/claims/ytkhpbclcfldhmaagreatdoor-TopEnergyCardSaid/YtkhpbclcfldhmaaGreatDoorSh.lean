/-
 Library functions of the shelf at this dump (written by the kit's plain mode of its one command).
-/
import Derived.Shelf.LaysM
import Derived.Shelf.Strconv.Itoa1
import Derived.Shelf.Strconv.Itoa2
import Derived.Shelf.Strings.BuilderK
import Derived.Shelf.Small.Bits
import Derived.Shelf.Strings.Search3
import Derived.Shelf.Pu.ParseUintPublic10
import Derived.Ground.FneProg
import Derived.Ground.MpProg
import Derived.Test.YtkhpbclcfldhmaaGreatDoorDe
set_option linter.constructorNameAsVariable false
set_option linter.unusedSimpArgs false
set_option linter.unusedVariables false
namespace Go.Proofs
open Go.Shelf
def Tryz.lays283_ren:Go.Shelf.Ren:=⟨fun|283=>104|n=>n,fun|3=>3|9=>9|4=>4|n=>n,fun|n=>n⟩
theorem Tryz.lays283:Go.Proofs.Lays.n283 Tryz.prog Tryz.lays283_ren:={
 mixed:=by kernel_rfl
 f283:=Tryz.func104.trans (congrArg some (by kernel_rfl))
 t3:=Tryz.underlying3
 a3:=Tryz.isAgg3
 z3:=Tryz.sizeOf3
 v3:=Tryz.zeroValue3
 t4:=Tryz.underlying4
 a4:=Tryz.isAgg4
 z4:=Tryz.sizeOf4
 v4:=Tryz.zeroValue4
 t9:=Tryz.underlying9
 a9:=Tryz.isAgg9
 z9:=Tryz.sizeOf9
 v9:=Tryz.zeroValue9}
def Tryz.laysM284_ren:Go.Shelf.Ren:=⟨fun|284=>105|129=>113|317=>112|318=>114|n=>n,fun|53=>130|3=>3|212=>188|0=>0|4=>4|46=>131|5=>5|9=>9|n=>n,fun|17=>3|n=>n⟩
theorem Tryz.laysM284:Go.Proofs.LaysM.n284 Tryz.prog Tryz.laysM284_ren:={
 mixed:=by kernel_rfl
 f129:=Tryz.func113.trans (congrArg some (by kernel_rfl))
 f284:=Tryz.func105.trans (congrArg some (by kernel_rfl))
 f317:=Tryz.func112.trans (congrArg some (by kernel_rfl))
 f318:=Tryz.func114.trans (congrArg some (by kernel_rfl))
 t0:=Tryz.underlying0
 a0:=Tryz.isAgg0
 z0:=Tryz.sizeOf0
 v0:=Tryz.zeroValue0
 t3:=Tryz.underlying3
 a3:=Tryz.isAgg3
 z3:=Tryz.sizeOf3
 v3:=Tryz.zeroValue3
 t4:=Tryz.underlying4
 a4:=Tryz.isAgg4
 z4:=Tryz.sizeOf4
 v4:=Tryz.zeroValue4
 t5:=Tryz.underlying5
 a5:=Tryz.isAgg5
 z5:=Tryz.sizeOf5
 v5:=Tryz.zeroValue5
 t9:=Tryz.underlying9
 a9:=Tryz.isAgg9
 z9:=Tryz.sizeOf9
 v9:=Tryz.zeroValue9
 t46:=Tryz.underlying131
 a46:=Tryz.isAgg131
 z46:=Tryz.sizeOf131
 v46:=Tryz.zeroValue131
 t53:=Tryz.underlying130
 a53:=Tryz.isAgg130
 z53:=Tryz.sizeOf130
 v53:=Tryz.zeroValue130
 t212:=Tryz.underlying188
 a212:=Tryz.isAgg188
 z212:=Tryz.sizeOf188
 v212:=Tryz.zeroValue188
 g17:=by kernel_rfl
 i0:=by kernel_rfl
 i3:=by kernel_rfl
 i4:=by kernel_rfl
 i5:=by kernel_rfl
 i9:=by kernel_rfl
 i46:=by kernel_rfl
 i53:=by kernel_rfl
 i212:=by kernel_rfl
 m17:=by kernel_rfl}
def Tryz.lays285_ren:Go.Shelf.Ren:=⟨fun|285=>106|n=>n,fun|37=>119|53=>130|3=>3|4=>4|51=>127|9=>9|5=>5|0=>0|n=>n,fun|n=>n⟩
theorem Tryz.lays285:Go.Proofs.Lays.n285 Tryz.prog Tryz.lays285_ren:={
 mixed:=by kernel_rfl
 f285:=Tryz.func106.trans (congrArg some (by kernel_rfl))
 t0:=Tryz.underlying0
 a0:=Tryz.isAgg0
 z0:=Tryz.sizeOf0
 v0:=Tryz.zeroValue0
 t3:=Tryz.underlying3
 a3:=Tryz.isAgg3
 z3:=Tryz.sizeOf3
 v3:=Tryz.zeroValue3
 t4:=Tryz.underlying4
 a4:=Tryz.isAgg4
 z4:=Tryz.sizeOf4
 v4:=Tryz.zeroValue4
 t5:=Tryz.underlying5
 a5:=Tryz.isAgg5
 z5:=Tryz.sizeOf5
 v5:=Tryz.zeroValue5
 t9:=Tryz.underlying9
 a9:=Tryz.isAgg9
 z9:=Tryz.sizeOf9
 v9:=Tryz.zeroValue9
 t37:=Tryz.underlying119
 a37:=Tryz.isAgg119
 z37:=Tryz.sizeOf119
 v37:=Tryz.zeroValue119
 t51:=Tryz.underlying127
 a51:=Tryz.isAgg127
 z51:=Tryz.sizeOf127
 v51:=Tryz.zeroValue127
 t53:=Tryz.underlying130
 a53:=Tryz.isAgg130
 z53:=Tryz.sizeOf130
 v53:=Tryz.zeroValue130}
def Tryz.lays169_ren:Go.Shelf.Ren:=⟨fun|169=>80|n=>n,fun|70=>150|9=>9|0=>0|72=>152|37=>119|127=>164|3=>3|5=>5|n=>n,fun|n=>n⟩
theorem Tryz.lays169:Go.Proofs.Lays.n169 Tryz.prog Tryz.lays169_ren:={
 mixed:=by kernel_rfl
 f169:=Tryz.func80.trans (congrArg some (by kernel_rfl))
 t0:=Tryz.underlying0
 a0:=Tryz.isAgg0
 z0:=Tryz.sizeOf0
 v0:=Tryz.zeroValue0
 t3:=Tryz.underlying3
 a3:=Tryz.isAgg3
 z3:=Tryz.sizeOf3
 v3:=Tryz.zeroValue3
 t9:=Tryz.underlying9
 a9:=Tryz.isAgg9
 z9:=Tryz.sizeOf9
 v9:=Tryz.zeroValue9
 t37:=Tryz.underlying119
 a37:=Tryz.isAgg119
 z37:=Tryz.sizeOf119
 v37:=Tryz.zeroValue119
 t70:=Tryz.underlying150
 a70:=Tryz.isAgg150
 z70:=Tryz.sizeOf150
 v70:=Tryz.zeroValue150
 t72:=Tryz.underlying152
 a72:=Tryz.isAgg152
 z72:=Tryz.sizeOf152
 v72:=Tryz.zeroValue152
 t127:=Tryz.underlying164
 a127:=Tryz.isAgg164
 z127:=Tryz.sizeOf164
 v127:=Tryz.zeroValue164}
def Tryz.laysPu14_ren:Go.Shelf.Ren:=⟨fun|14=>69|16=>82|17=>83|19=>93|20=>94|21=>95|22=>96|23=>97|24=>98|25=>109|27=>111|26=>110|28=>117|29=>120|30=>104|31=>105|32=>106|33=>107|35=>113|34=>112|36=>114|37=>115|38=>116|39=>118|40=>119|n=>n,fun|9=>9|3=>3|22=>130|24=>137|25=>138|4=>4|34=>165|5=>5|36=>131|37=>119|0=>0|39=>167|21=>21|44=>185|47=>164|50=>193|48=>191|2=>2|52=>176|55=>179|59=>188|60=>127|20=>20|61=>189|65=>195|66=>196|67=>156|n=>n,fun|0=>1|1=>2|2=>3|3=>4|4=>5|n=>n⟩
theorem Tryz.laysPu14:Go.Proofs.LaysPu.n14 Tryz.prog Tryz.laysPu14_ren:={
 mixed:=by kernel_rfl
 f14:=Tryz.func69.trans (congrArg some (by kernel_rfl))
 f16:=Tryz.func82.trans (congrArg some (by kernel_rfl))
 f17:=Tryz.func83.trans (congrArg some (by kernel_rfl))
 f19:=Tryz.func93.trans (congrArg some (by kernel_rfl))
 f20:=Tryz.func94.trans (congrArg some (by kernel_rfl))
 f21:=Tryz.func95.trans (congrArg some (by kernel_rfl))
 f22:=Tryz.func96.trans (congrArg some (by kernel_rfl))
 f23:=Tryz.func97.trans (congrArg some (by kernel_rfl))
 f24:=Tryz.func98.trans (congrArg some (by kernel_rfl))
 f25:=Tryz.func109.trans (congrArg some (by kernel_rfl))
 f26:=Tryz.func110.trans (congrArg some (by kernel_rfl))
 f27:=Tryz.func111.trans (congrArg some (by kernel_rfl))
 f28:=Tryz.func117.trans (congrArg some (by kernel_rfl))
 f29:=Tryz.func120.trans (congrArg some (by kernel_rfl))
 f30:=Tryz.func104.trans (congrArg some (by kernel_rfl))
 f31:=Tryz.func105.trans (congrArg some (by kernel_rfl))
 f32:=Tryz.func106.trans (congrArg some (by kernel_rfl))
 f33:=Tryz.func107.trans (congrArg some (by kernel_rfl))
 f34:=Tryz.func112.trans (congrArg some (by kernel_rfl))
 f35:=Tryz.func113.trans (congrArg some (by kernel_rfl))
 f36:=Tryz.func114.trans (congrArg some (by kernel_rfl))
 f37:=Tryz.func115.trans (congrArg some (by kernel_rfl))
 f38:=Tryz.func116.trans (congrArg some (by kernel_rfl))
 f39:=Tryz.func118.trans (congrArg some (by kernel_rfl))
 f40:=Tryz.func119.trans (congrArg some (by kernel_rfl))
 t0:=Tryz.underlying0
 a0:=Tryz.isAgg0
 z0:=Tryz.sizeOf0
 v0:=Tryz.zeroValue0
 i0:=by kernel_rfl
 t2:=Tryz.underlying2
 a2:=Tryz.isAgg2
 z2:=Tryz.sizeOf2
 v2:=Tryz.zeroValue2
 i2:=by kernel_rfl
 t3:=Tryz.underlying3
 a3:=Tryz.isAgg3
 z3:=Tryz.sizeOf3
 v3:=Tryz.zeroValue3
 i3:=by kernel_rfl
 t4:=Tryz.underlying4
 a4:=Tryz.isAgg4
 z4:=Tryz.sizeOf4
 v4:=Tryz.zeroValue4
 i4:=by kernel_rfl
 t5:=Tryz.underlying5
 a5:=Tryz.isAgg5
 z5:=Tryz.sizeOf5
 v5:=Tryz.zeroValue5
 i5:=by kernel_rfl
 t9:=Tryz.underlying9
 a9:=Tryz.isAgg9
 z9:=Tryz.sizeOf9
 v9:=Tryz.zeroValue9
 i9:=by kernel_rfl
 t20:=Tryz.underlying20
 a20:=Tryz.isAgg20
 z20:=Tryz.sizeOf20
 v20:=Tryz.zeroValue20
 i20:=by kernel_rfl
 t21:=Tryz.underlying21
 a21:=Tryz.isAgg21
 z21:=Tryz.sizeOf21
 v21:=Tryz.zeroValue21
 i21:=by kernel_rfl
 t22:=Tryz.underlying130
 a22:=Tryz.isAgg130
 z22:=Tryz.sizeOf130
 v22:=Tryz.zeroValue130
 i22:=by kernel_rfl
 t24:=Tryz.underlying137
 a24:=Tryz.isAgg137
 z24:=Tryz.sizeOf137
 v24:=Tryz.zeroValue137
 i24:=by kernel_rfl
 t25:=Tryz.underlying138
 a25:=Tryz.isAgg138
 z25:=Tryz.sizeOf138
 v25:=Tryz.zeroValue138
 i25:=by kernel_rfl
 t34:=Tryz.underlying165
 a34:=Tryz.isAgg165
 z34:=Tryz.sizeOf165
 v34:=Tryz.zeroValue165
 i34:=by kernel_rfl
 c34:=by kernel_rfl
 t36:=Tryz.underlying131
 a36:=Tryz.isAgg131
 z36:=Tryz.sizeOf131
 v36:=Tryz.zeroValue131
 i36:=by kernel_rfl
 t37:=Tryz.underlying119
 a37:=Tryz.isAgg119
 z37:=Tryz.sizeOf119
 v37:=Tryz.zeroValue119
 i37:=by kernel_rfl
 t39:=Tryz.underlying167
 a39:=Tryz.isAgg167
 z39:=Tryz.sizeOf167
 v39:=Tryz.zeroValue167
 i39:=by kernel_rfl
 t44:=Tryz.underlying185
 a44:=Tryz.isAgg185
 z44:=Tryz.sizeOf185
 v44:=Tryz.zeroValue185
 i44:=by kernel_rfl
 t47:=Tryz.underlying164
 a47:=Tryz.isAgg164
 z47:=Tryz.sizeOf164
 v47:=Tryz.zeroValue164
 i47:=by kernel_rfl
 t48:=Tryz.underlying191
 a48:=Tryz.isAgg191
 z48:=Tryz.sizeOf191
 v48:=Tryz.zeroValue191
 i48:=by kernel_rfl
 t50:=Tryz.underlying193
 a50:=Tryz.isAgg193
 z50:=Tryz.sizeOf193
 v50:=Tryz.zeroValue193
 i50:=by kernel_rfl
 t52:=Tryz.underlying176
 a52:=Tryz.isAgg176
 z52:=Tryz.sizeOf176
 v52:=Tryz.zeroValue176
 i52:=by kernel_rfl
 t55:=Tryz.underlying179
 a55:=Tryz.isAgg179
 z55:=Tryz.sizeOf179
 v55:=Tryz.zeroValue179
 i55:=by kernel_rfl
 t59:=Tryz.underlying188
 a59:=Tryz.isAgg188
 z59:=Tryz.sizeOf188
 v59:=Tryz.zeroValue188
 i59:=by kernel_rfl
 t60:=Tryz.underlying127
 a60:=Tryz.isAgg127
 z60:=Tryz.sizeOf127
 v60:=Tryz.zeroValue127
 i60:=by kernel_rfl
 t61:=Tryz.underlying189
 a61:=Tryz.isAgg189
 z61:=Tryz.sizeOf189
 t65:=Tryz.underlying195
 a65:=Tryz.isAgg195
 z65:=Tryz.sizeOf195
 v65:=Tryz.zeroValue195
 i65:=by kernel_rfl
 t66:=Tryz.underlying196
 a66:=Tryz.isAgg196
 z66:=Tryz.sizeOf196
 v66:=Tryz.zeroValue196
 i66:=by kernel_rfl
 t67:=Tryz.underlying156
 a67:=Tryz.isAgg156
 z67:=Tryz.sizeOf156
 v67:=Tryz.zeroValue156
 i67:=by kernel_rfl
 g0:=by kernel_rfl
 m0:=by kernel_rfl
 g1:=by kernel_rfl
 m1:=by kernel_rfl
 g2:=by kernel_rfl
 m2:=by kernel_rfl
 g3:=by kernel_rfl
 m3:=by kernel_rfl
 g4:=by kernel_rfl
 m4:=by kernel_rfl}
def Tryz.lays219_ren:Go.Shelf.Ren:=⟨fun|219=>73|217=>85|225=>86|224=>87|267=>88|266=>101|314=>102|n=>n,fun|9=>9|3=>3|4=>4|5=>5|46=>131|146=>170|51=>127|n=>n,fun|1=>0|n=>n⟩
theorem Tryz.lays219:Go.Proofs.Lays.n219 Tryz.prog Tryz.lays219_ren:={
 mixed:=by kernel_rfl
 f217:=Tryz.func85.trans (congrArg some (by kernel_rfl))
 f219:=Tryz.func73.trans (congrArg some (by kernel_rfl))
 f224:=Tryz.func87.trans (congrArg some (by kernel_rfl))
 f225:=Tryz.func86.trans (congrArg some (by kernel_rfl))
 f266:=Tryz.func101.trans (congrArg some (by kernel_rfl))
 f267:=Tryz.func88.trans (congrArg some (by kernel_rfl))
 f314:=Tryz.func102.trans (congrArg some (by kernel_rfl))
 t3:=Tryz.underlying3
 a3:=Tryz.isAgg3
 z3:=Tryz.sizeOf3
 v3:=Tryz.zeroValue3
 t4:=Tryz.underlying4
 a4:=Tryz.isAgg4
 z4:=Tryz.sizeOf4
 v4:=Tryz.zeroValue4
 t5:=Tryz.underlying5
 a5:=Tryz.isAgg5
 z5:=Tryz.sizeOf5
 v5:=Tryz.zeroValue5
 t9:=Tryz.underlying9
 a9:=Tryz.isAgg9
 z9:=Tryz.sizeOf9
 v9:=Tryz.zeroValue9
 t46:=Tryz.underlying131
 a46:=Tryz.isAgg131
 z46:=Tryz.sizeOf131
 v46:=Tryz.zeroValue131
 t51:=Tryz.underlying127
 a51:=Tryz.isAgg127
 z51:=Tryz.sizeOf127
 v51:=Tryz.zeroValue127
 t146:=Tryz.underlying170
 a146:=Tryz.isAgg170
 z146:=Tryz.sizeOf170
 v146:=Tryz.zeroValue170
 g1:=by kernel_rfl}
end Go.Proofs
/-
 strconv.ParseUint at base 10 and 32 bits, at one to nine digits: a primitive.
-/
namespace Go.Proofs.YtkhpbclcfldhmaaGreatDoor
open Go.Shelf Go.RowKit Dv Go.Am
theorem ZwW {s:List UInt8} (h:Zw4 s=true):Dg s:=by
 intro c hc
 have:=List.all_eq_true.1 h c hc
 rw[Bool.and_eq_true]at this
 exact⟨Nat.le_of_ble_eq_true this.1,Nat.le_of_ble_eq_true this.2⟩
theorem Zl8: ∀ (s:List UInt8) (n:Nat),Dg s→Zn3 n s≤4294967295→Lib.parseUintM 4294967295 n s= .ok (Zn3 n s)
 | [],n,_,_=>rfl
 |c::s,n,h,h2=>by
  have hc:=h c List.mem_cons_self
  have hs:Dg s:=fun x hx=>h x (List.mem_cons_of_mem _ hx)
  have hge:10*n+(c.toNat-48)≤Zn3 n (c::s):=by
   rw[ZdK,ZiO]
   have h1:(10*n+(c.toNat-48))*1≤(10*n+(c.toNat-48))*10^s.length:=Nat.mul_le_mul_left _ (Nat.one_le_pow _ _ (by decide))
   omega
  rw[Lib.parseUintM,if_pos hc,if_neg (by omega),if_neg (by omega),ZdK,show n*10+(c.toNat-48)=10*n+(c.toNat-48)by omega]
  exact Zl8 s _ hs (by rw[←ZdK];exact h2)
theorem Zsg {s:List UInt8} (h:Dg s) (h1:1≤s.length) (h9:s.length≤9):Lib.parseUintB 32 s= .ok (dec s):=by
 have hne:s≠ []:=by rintro rfl;simp at h1
 have hlt:=ZjA h
 have:=Nat.pow_le_pow_right (show 0<10 by decide) h9
 rw[Lib.parseUintB,if_neg hne,show 2^32-1=4294967295 from rfl]
 exact Zl8 s 0 h (by show dec s≤_;omega)
theorem ZmY: ∀qs v,parseG qs=some v→ ∀ (S:Nat→Prop) w vals,(∀b,S b→b<w.heap.size)→Laid.ok S w→LRel w S qs vals→
 Calls Tryz.prog 69 vals.toArray w fun e w'=> ∃u,e= .returned u∧Below w.heap.size w w'∧IRel w' (fun b=>S b∨(w.heap.size≤b∧b<w'.heap.size)) v u:=by
 intro qs v hv S w vals hS hL hr
 unfold parseG at hv
 split at hv
 ·rename_i s b z
  split at hv
  ·rename_i hb
   simp only[Bool.and_eq_true,decide_eq_true_eq]at hb
   obtain⟨⟨rfl,rfl⟩,⟨hd,h1⟩,h9⟩:=hb
   cases hv
   simp only[LRel,IRel]at hr
   obtain⟨_,_,rfl,rfl,_,_,rfl,rfl,_,_,rfl,rfl,rfl⟩:=hr
   have h9:=Nat.le_of_ble_eq_true h9
   have hsz:s.size=s.data.toList.length:=rfl
   refine(Any.strconv_ParseUint_10_at32_ok Tryz.laysPu14 s (by omega) _ (Zsg (ZwW hd) (Nat.le_of_ble_eq_true h1) h9) w).mono ?_
   rintro e w' ⟨rfl,hw⟩
   refine⟨_,rfl, ?_, ?_⟩
   ·rcases hw with rfl|rfl
    ·exact Below.refl _ _
    ·exact Lib.bytesWorld_below _ _ _
   ·simp only[IRel]
    exact⟨_,rfl,by simp[LRel,IRel]⟩
  ·cases hv
 ·cases hv
end Go.Proofs.YtkhpbclcfldhmaaGreatDoor
