/-
 Library functions of the shelf at this dump (written by the kit's plain mode of its one command).
-/
import Derived.Shelf.LaysM
import Derived.Shelf.Strings.Search3
import Derived.Shelf.Strings.Fields
import Derived.Ground.NamesProg
import Derived.Test.YtgngdcpglnfkeaaDoorHints
set_option linter.constructorNameAsVariable false
set_option linter.unusedSimpArgs false
set_option linter.unusedVariables false
namespace Go.Proofs
open Go.Shelf
def Tryd.lays144_ren:Go.Shelf.Ren:=⟨fun|144=>16|143=>42|219=>68|217=>73|225=>74|224=>75|267=>76|266=>79|314=>80|n=>n,fun|9=>9|4=>4|3=>3|5=>5|46=>121|146=>133|51=>114|n=>n,fun|1=>2|n=>n⟩
theorem Tryd.lays144:Go.Proofs.Lays.n144 Tryd.prog Tryd.lays144_ren:={
 mixed:=by kernel_rfl
 f143:=Tryd.func42.trans (congrArg some (by kernel_rfl))
 f144:=Tryd.func16.trans (congrArg some (by kernel_rfl))
 f217:=Tryd.func73.trans (congrArg some (by kernel_rfl))
 f219:=Tryd.func68.trans (congrArg some (by kernel_rfl))
 f224:=Tryd.func75.trans (congrArg some (by kernel_rfl))
 f225:=Tryd.func74.trans (congrArg some (by kernel_rfl))
 f266:=Tryd.func79.trans (congrArg some (by kernel_rfl))
 f267:=Tryd.func76.trans (congrArg some (by kernel_rfl))
 f314:=Tryd.func80.trans (congrArg some (by kernel_rfl))
 t3:=Tryd.underlying3
 a3:=Tryd.isAgg3
 z3:=Tryd.sizeOf3
 v3:=Tryd.zeroValue3
 t4:=Tryd.underlying4
 a4:=Tryd.isAgg4
 z4:=Tryd.sizeOf4
 v4:=Tryd.zeroValue4
 t5:=Tryd.underlying5
 a5:=Tryd.isAgg5
 z5:=Tryd.sizeOf5
 v5:=Tryd.zeroValue5
 t9:=Tryd.underlying9
 a9:=Tryd.isAgg9
 z9:=Tryd.sizeOf9
 v9:=Tryd.zeroValue9
 t46:=Tryd.underlying121
 a46:=Tryd.isAgg121
 z46:=Tryd.sizeOf121
 v46:=Tryd.zeroValue121
 t51:=Tryd.underlying114
 a51:=Tryd.isAgg114
 z51:=Tryd.sizeOf114
 v51:=Tryd.zeroValue114
 t146:=Tryd.underlying133
 a146:=Tryd.isAgg133
 z146:=Tryd.sizeOf133
 v146:=Tryd.zeroValue133
 g1:=by kernel_rfl}
def Tryd.lays157_ren:Go.Shelf.Ren:=⟨fun|157=>17|229=>43|199=>44|261=>69|311=>77|312=>78|n=>n,fun|9=>9|31=>22|3=>3|5=>5|4=>4|119=>82|0=>0|40=>84|152=>111|21=>21|154=>113|51=>114|141=>116|196=>125|193=>122|198=>128|49=>126|194=>123|201=>131|226=>135|46=>121|227=>136|n=>n,fun|0=>0|6=>1|n=>n⟩
theorem Tryd.lays157:Go.Proofs.Lays.n157 Tryd.prog Tryd.lays157_ren:={
 mixed:=by kernel_rfl
 f157:=Tryd.func17.trans (congrArg some (by kernel_rfl))
 f199:=Tryd.func44.trans (congrArg some (by kernel_rfl))
 f229:=Tryd.func43.trans (congrArg some (by kernel_rfl))
 f261:=Tryd.func69.trans (congrArg some (by kernel_rfl))
 f311:=Tryd.func77.trans (congrArg some (by kernel_rfl))
 f312:=Tryd.func78.trans (congrArg some (by kernel_rfl))
 t0:=Tryd.underlying0
 a0:=Tryd.isAgg0
 z0:=Tryd.sizeOf0
 v0:=Tryd.zeroValue0
 t3:=Tryd.underlying3
 a3:=Tryd.isAgg3
 z3:=Tryd.sizeOf3
 v3:=Tryd.zeroValue3
 t4:=Tryd.underlying4
 a4:=Tryd.isAgg4
 z4:=Tryd.sizeOf4
 v4:=Tryd.zeroValue4
 t5:=Tryd.underlying5
 a5:=Tryd.isAgg5
 z5:=Tryd.sizeOf5
 v5:=Tryd.zeroValue5
 t9:=Tryd.underlying9
 a9:=Tryd.isAgg9
 z9:=Tryd.sizeOf9
 v9:=Tryd.zeroValue9
 t21:=Tryd.underlying21
 a21:=Tryd.isAgg21
 z21:=Tryd.sizeOf21
 v21:=Tryd.zeroValue21
 t31:=Tryd.underlying22
 a31:=Tryd.isAgg22
 z31:=Tryd.sizeOf22
 v31:=Tryd.zeroValue22
 t40:=Tryd.underlying84
 a40:=Tryd.isAgg84
 z40:=Tryd.sizeOf84
 v40:=Tryd.zeroValue84
 t46:=Tryd.underlying121
 a46:=Tryd.isAgg121
 z46:=Tryd.sizeOf121
 v46:=Tryd.zeroValue121
 t49:=Tryd.underlying126
 a49:=Tryd.isAgg126
 z49:=Tryd.sizeOf126
 v49:=Tryd.zeroValue126
 t51:=Tryd.underlying114
 a51:=Tryd.isAgg114
 z51:=Tryd.sizeOf114
 v51:=Tryd.zeroValue114
 t119:=Tryd.underlying82
 a119:=Tryd.isAgg82
 z119:=Tryd.sizeOf82
 t141:=Tryd.underlying116
 a141:=Tryd.isAgg116
 z141:=Tryd.sizeOf116
 v141:=Tryd.zeroValue116
 t152:=Tryd.underlying111
 a152:=Tryd.isAgg111
 z152:=Tryd.sizeOf111
 v152:=Tryd.zeroValue111
 t154:=Tryd.underlying113
 a154:=Tryd.isAgg113
 z154:=Tryd.sizeOf113
 v154:=Tryd.zeroValue113
 t193:=Tryd.underlying122
 a193:=Tryd.isAgg122
 z193:=Tryd.sizeOf122
 v193:=Tryd.zeroValue122
 t194:=Tryd.underlying123
 a194:=Tryd.isAgg123
 z194:=Tryd.sizeOf123
 v194:=Tryd.zeroValue123
 t196:=Tryd.underlying125
 a196:=Tryd.isAgg125
 z196:=Tryd.sizeOf125
 v196:=Tryd.zeroValue125
 t198:=Tryd.underlying128
 a198:=Tryd.isAgg128
 z198:=Tryd.sizeOf128
 v198:=Tryd.zeroValue128
 t201:=Tryd.underlying131
 a201:=Tryd.isAgg131
 z201:=Tryd.sizeOf131
 v201:=Tryd.zeroValue131
 t226:=Tryd.underlying135
 a226:=Tryd.isAgg135
 z226:=Tryd.sizeOf135
 v226:=Tryd.zeroValue135
 t227:=Tryd.underlying136
 a227:=Tryd.isAgg136
 z227:=Tryd.sizeOf136
 v227:=Tryd.zeroValue136
 g0:=by kernel_rfl
 g6:=by kernel_rfl}
end Go.Proofs
/-
 strings.Contains, strings.Fields and netmodelFact: primitives, and what they come to.
-/
namespace Go.Proofs.YtgngdcpglnfkeaaDoor
open Go.Shelf Go.RowKit Go.Am Go.Tx
set_option maxRecDepth 100000
theorem Zpq: ∀qs v,Zvt qs=some v→ ∀ (S:Nat→Prop) w vals,(∀b,S b→b<w.heap.size)→Laid.ok S w→LRel w S qs vals→
 Calls Tryd.prog 16 vals.toArray w fun e w'=> ∃u,e= .returned u∧Below w.heap.size w w'∧IRel w' (fun b=>S b∨(w.heap.size≤b∧b<w'.heap.size)) v u:=by
 intro qs v hv S w vals hS hL hr
 unfold Zvt at hv
 split at hv
 ·rename_i a b
  cases hd:decide (a.size<4294967281)with
  |false=>rw[hd]at hv;cases hv
  |true=>
   rw[hd]at hv
   cases hv
   simp only[LRel,IRel]at hr
   obtain⟨_,_,rfl,rfl,_,_,rfl,rfl,rfl⟩:=hr
   obtain⟨_,g,m,h1,_,h2⟩:=hL
   have hg:Tryd.prog.globalNamed Zsr=some (Tryd.lays144_ren.g 1):=by kernel_rfl
   rw[hg]at h1
   cases h1
   refine(Any.strings_Contains Tryd.lays144 a b m w (of_decide_eq_true hd) h2).mono ?_
   rintro e w' ⟨rfl,rfl⟩
   refine⟨_,rfl,Below.refl _ _, ?_⟩
   simp only[IRel]
 ·cases hv
theorem Zls (w:World) (S:Nat→Prop) (b:Nat): ∀ (l:List (List UInt8)) (o:Nat),(∀j (h:j<l.length),w.cell? ⟨b,o+j,none⟩=some (.string ⟨l[j].toArray⟩))→EsRel w S (l.map fun x=> [PV.str ⟨x.toArray⟩]) b o
 | [],_,_=>by simp only[List.map_nil,EsRel]
 |x::l,o,h=>by
  simp only[List.map_cons,EsRel,CsRel,IRel,List.length_cons,List.length_nil,and_true]
  refine⟨⟨rfl,_,h 0 (by simp),rfl⟩,Zls w S b l (o+1) fun j hj=> ?_⟩
  have:=h (j+1) (by simpa using hj)
  rw[show o+1+j=o+(j+1)by omega]
  simpa using this
theorem ZlW (s:ByteArray) (w:World) (hs:s.size<4294967281) (hascii: ∀ (j:Nat) b,s.data.toList[j]? =some b→b.toNat<128) (htab:Lib.TabIs Tryd.prog w Zha .u8 Lib.asciiSpaceTab):
 Calls Tryd.prog 17 #[.string s] w fun e w'=>
  e= .returned (.slice (some ⟨w.heap.size,0,none⟩) (Lib.fields s.data.toList).length (Lib.fields s.data.toList).length)∧w'=w.alloc (.cells ((Lib.fields s.data.toList).map fun l=>Value.string ⟨l.toArray⟩).toArray 9):=
 Any.strings_Fields Tryd.lays157 (by kernel_rfl) (by kernel_rfl) s w hs hascii htab
theorem Zpw: ∀qs v,ZvA qs=some v→ ∀ (S:Nat→Prop) w vals,(∀b,S b→b<w.heap.size)→Laid.ok S w→LRel w S qs vals→
 Calls Tryd.prog 17 vals.toArray w fun e w'=> ∃u,e= .returned u∧Below w.heap.size w w'∧IRel w' (fun b=>S b∨(w.heap.size≤b∧b<w'.heap.size)) v u:=by
 intro qs v hv S w vals hS hL hr
 unfold ZvA at hv
 split at hv
 ·rename_i a
  cases hd:(decide (a.size<4294967281)&&(ZpP a.data.toList&& !(Lib.fields a.data.toList).isEmpty))with
  |false=>rw[hd]at hv;cases hv
  |true=>
   rw[hd]at hv
   cases hv
   simp only[Bool.and_eq_true,decide_eq_true_eq,Bool.not_eq_true',List.isEmpty_eq_false_iff]at hd
   obtain⟨d1,d2,d3⟩:=hd
   simp only[LRel,IRel]at hr
   obtain⟨_,_,rfl,rfl,rfl⟩:=hr
   obtain⟨⟨g,h1,_,h2⟩,_⟩:=hL
   have hasc: ∀ (j:Nat) b,a.data.toList[j]? =some b→b.toNat<128:=fun j b hj=>of_decide_eq_true (List.all_eq_true.1 d2 b (List.mem_of_getElem? hj))
   refine(ZlW a w d1 hasc h2).mono ?_
   rintro e w' ⟨rfl,rfl⟩
   refine⟨_,rfl,Zfa _ _, ?_⟩
   generalize Lib.fields a.data.toList=fs at d3
   have hsz: ∀o,(w.alloc o).heap.size=w.heap.size+1:=fun o=>by unfold World.alloc;exact Array.size_push ..
   have hs1: ∀o,w.heap.size<(w.alloc o).heap.size:=fun o=>by rw[hsz];exact Nat.lt_succ_self _
   have hl:(fs.map fun l=> [PV.str ⟨l.toArray⟩]).length=fs.length:=List.length_map ..
   simp only[IRel]
   rw[hl]
   refine⟨_,_,rfl,Nat.le_refl _, .inr ⟨w.heap.size,0,1,rfl, .inr ⟨Nat.le_refl _,hs1 _⟩, ?_, ?_⟩⟩
   ·intro x hx
    obtain⟨y,_,rfl⟩:=List.mem_map.1 hx
    rfl
   ·refine Zls _ _ _ fs 0 fun j hj=> ?_
    rw[World.cell?_alloc_new,Nat.zero_add]
    simp[hj]
 ·cases hv
theorem Zup:Zcn Tryd.prog Zqc:=by
 intro f g hg
 cases hg
theorem Ztt:Static Tryd.prog Zqc:=ZgW ZoQ fun f hf=>by cases hf
set_option maxRecDepth 1000000 in
theorem ZrA:ZjY ((Zeb Tryd.prog Zqc 100).rn 4 [] [])=true:=by decide+kernel
theorem ZoD: ∀qs v,ZuL qs=some v→ ∀ (S:Nat→Prop) w vals,(∀b,S b→b<w.heap.size)→Laid.ok S w→LRel w S qs vals→
 Calls Tryd.prog 4 vals.toArray w fun e w'=> ∃u,e= .returned u∧Below w.heap.size w w'∧IRel w' (fun b=>S b∨(w.heap.size≤b∧b<w'.heap.size)) v u:=by
 intro qs v hv
 refine Zl2 (l:=[4]) Ztt Zup (fun f hf=> ?_) 4 ZsJ rfl qs v ?_
 ·rw[List.mem_singleton.1 hf]
  exact⟨100,ZrA⟩
 ·cases qs<;>exact hv
theorem ZuT:Zcn Tryd.prog Zaw:=by
 intro f g hg
 have hg:prims f=some g:=hg
 unfold prims at hg
 split at hg
 ·cases hg;exact Zpq
 ·cases hg;exact Zpw
 ·cases hg;exact ZoD
 ·cases hg
theorem Ztm:Static Tryd.prog Zaw:=ZgW ZoQ fun f hf=>by
 unfold prims at hf
 split at hf
 ·exact⟨_,Tryd.func16,by kernel_rfl,by kernel_rfl⟩
 ·exact⟨_,Tryd.func17,by kernel_rfl,by kernel_rfl⟩
 ·exact⟨_,Tryd.func4,by kernel_rfl,by kernel_rfl⟩
 ·cases hf
theorem Zh0 {f:FuncId} {g:List PV→Option PV} {qs:List PV} {v:PV} (h:Zaw.prim f=some g) (hv:g qs=some v) (he:exp ZaM [] v=some v):ZbD Zaw (lim Tryd.prog Zaw) f qs=some v:=by
 unfold ZbD
 rw[h]
 show(g qs).bind _=_
 rw[hv]
 exact he
theorem Znp:PureOK Tryd.prog Zaw 4 [] (fun V=>V= .v .b true):=by
 refine⟨fun qs hr=> ?_⟩
 simp only[RL]at hr
 subst hr
 exact⟨.bool true, .v .b true,Zh0 (f:=4) rfl rfl rfl,by simp only[RV,RR],rfl⟩
theorem ZvM (s p:List UInt8) (hs:s.length<4294967281):PureOK Tryd.prog Zaw 16 [.v .s s, .v .s p] (fun V=>V= .v .b (Lib.contains s p)):=by
 refine⟨fun qs hr=> ?_⟩
 simp only[RL,RV,RR]at hr
 obtain⟨_,_,rfl,h1,_,_,rfl,h2,rfl⟩:=hr
 simp only[List.cons.injEq,and_true]at h1 h2
 subst h1 h2
 refine⟨.bool (Lib.contains s p), .v .b (Lib.contains s p),Zh0 (f:=16) rfl ?_ rfl,by simp only[RV,RR],rfl⟩
 have hd:decide ((⟨s.toArray⟩:ByteArray).size<4294967281)=true:=decide_eq_true (show s.toArray.size<4294967281 by simpa using hs)
 simp only[Zvt,hd,cond_true]
theorem Zqb: ∀l:List (List UInt8),All2 (RR .s) l (l.map fun x=> [PV.str ⟨x.toArray⟩])
 | []=>trivial
 |x::l=>⟨rfl,Zqb l⟩
theorem ZvV (s:List UInt8) (hs:s.length<4294967281) (ha: ∀c∈s,c.toNat<128) (hn:Lib.fields s≠ []):PureOK Tryd.prog Zaw 17 [.v .s s] (fun V=>V= .v (.l .s) (Lib.fields s)):=by
 refine⟨fun qs hr=> ?_⟩
 simp only[RL,RV,RR]at hr
 obtain⟨_,_,rfl,h1,rfl⟩:=hr
 simp only[List.cons.injEq,and_true]at h1
 subst h1
 refine⟨.lst ((Lib.fields s).map fun x=> [PV.str ⟨x.toArray⟩]), .v (.l .s) (Lib.fields s),Zh0 (f:=17) rfl ?_ rfl, ?_,rfl⟩
 ·have hd:(decide ((⟨s.toArray⟩:ByteArray).size<4294967281)&&(ZpP s&& !(Lib.fields s).isEmpty))=true:=by
   simp only[Bool.and_eq_true,decide_eq_true_eq,Bool.not_eq_true',List.isEmpty_eq_false_iff]
   exact⟨show s.toArray.size<4294967281 by simpa using hs,List.all_eq_true.2 fun c hc=>decide_eq_true (ha c hc),hn⟩
  simp only[ZvA,hd,cond_true]
 ·simp only[RV,RR]
  exact .inr ⟨_,rfl,Zqb _⟩
end Go.Proofs.YtgngdcpglnfkeaaDoor
