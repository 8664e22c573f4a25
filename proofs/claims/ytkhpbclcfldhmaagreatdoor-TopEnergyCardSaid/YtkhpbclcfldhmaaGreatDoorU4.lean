/-
 netmodel.Check: the loops over the nodes, the switches and the branches.
-/
import Derived.Test.YtkhpbclcfldhmaaGreatDoorU3
set_option linter.constructorNameAsVariable false
set_option linter.unusedSimpArgs false
set_option linter.unusedVariables false
namespace Go.Proofs.YtkhpbclcfldhmaaGreatDoor
open Go.Am Go.Tx Ne
set_option maxRecDepth 100000
set_option maxHeartbeats 32000000 in
theorem Zt9 (hp:List SM) (mid:Nat) (nodes ks:List Txt) (name:Txt) (hs:name.length≤9223372036854775806) (hm:nth hp mid=some (.set ks)):
 OpenOK Tryz.prog Zao 29 [.agg [.mp mid, .v (.l .s) nodes], .v .s name, .nils] hp (ZzE hp mid nodes ks name []):=by
 refine ZiE (fn:=Tryz.f29) (code:=Zdg Tryz.f29) Zah (by kernel_rfl) Tryz.func29 (by kernel_rfl) (Nat.le_of_ble_eq_true (by kernel_rfl)) ?_
 intro base
 have hN:=Zu8 name hs
 have hLc:nth (hp++ [SM.cell [.mp mid, .v (.l .s) nodes] true]) hp.length=some (.cell [.mp mid, .v (.l .s) nodes] true):=Znt
 have hm1:nth (hp++ [SM.cell [.mp mid, .v (.l .s) nodes] true]) mid=some (.set ks):=Zk2 hm
 cases h1:ZbJ name with
 |false=>
  rw[h1]at hN
  have eD:=Zpw (nodes:=nodes) (ks:=ks) (it:=Zeh name []) h1
  refine Zag ?_
  refine Zbq ?_
  refine Zab ?_
  refine Zaf ?_
  refine Zag ?_
  refine Zab ?_
  refine Zad rfl ((hN).mono ?_)
  rintro _ rfl
  refine Zaa rfl rfl ?_
  iterate 2 refine Zab ?_
  refine Zaf ?_
  refine brT rfl ?_
  refine Zag ?_
  refine Zab ?_
  refine Zaf ?_
  exact⟨congrArg (fun x=>SV.v (.i .i64) x) eD.symm,fun h=>by rw[eD]at h;cases h⟩
 |true=>
  rw[h1]at hN
  cases h2:ZqG name ks with
  |true=>
   have eD:=Zoh (nodes:=nodes) (it:=Zeh name []) h1 ((Zl0 name ks).symm.trans h2)
   refine Zag ?_
   refine Zbq ?_
   refine Zab ?_
   refine Zaf ?_
   refine Zag ?_
   refine Zab ?_
   refine Zad rfl ((hN).mono ?_)
   rintro _ rfl
   refine Zaa rfl rfl ?_
   iterate 2 refine Zab ?_
   refine Zaf ?_
   refine brF rfl ?_
   refine Zag ?_
   refine Zab ?_
   refine Zad rfl (Zcb rfl rfl hLc rfl rfl ?_)
   refine Zaa rfl rfl ?_
   refine Zab ?_
   refine Zad rfl (ZyM rfl rfl rfl rfl hm1 ?_)
   refine Zaa rfl rfl ?_
   refine Zab ?_
   refine Zaf ?_
   refine brT h2 ?_
   refine Zag ?_
   refine Zab ?_
   refine Zaf ?_
   exact⟨congrArg (fun x=>SV.v (.i .i64) x) eD.symm,fun h=>by rw[eD]at h;cases h⟩
  |false=>
   have h2':Zfc name ks=false:=(Zl0 name ks).symm.trans h2
   have hset:(hp++ [SM.cell [.mp mid, .v (.l .s) nodes] true]).set mid (.set (ZtB name ks))=hp.set mid (.set (ks++ [name]))++ [.cell [.mp mid, .v (.l .s) nodes] true]:=by rw[Zpy hm,Zko h2]
   have eD:Zbv nodes ks (Zeh name [])=0:=Zmx (nodes:=nodes) (it:=Zeh name []) h1 h2' rfl
   refine Zag ?_
   refine Zbq ?_
   refine Zab ?_
   refine Zaf ?_
   refine Zag ?_
   refine Zab ?_
   refine Zad rfl ((hN).mono ?_)
   rintro _ rfl
   refine Zaa rfl rfl ?_
   iterate 2 refine Zab ?_
   refine Zaf ?_
   refine brF rfl ?_
   refine Zag ?_
   refine Zab ?_
   refine Zad rfl (Zcb rfl rfl hLc rfl rfl ?_)
   refine Zaa rfl rfl ?_
   refine Zab ?_
   refine Zad rfl (ZyM rfl rfl rfl rfl hm1 ?_)
   refine Zaa rfl rfl ?_
   refine Zab ?_
   refine Zaf ?_
   refine brF h2 ?_
   refine Zag ?_
   refine Zab ?_
   refine Zad rfl (Zcb rfl rfl hLc rfl rfl ?_)
   refine Zaa rfl rfl ?_
   refine Zab ?_
   refine Zad rfl (Zzx rfl rfl rfl rfl rfl hm1 ?_)
   refine Zau rfl ?_
   refine Zaf ?_
   refine Zag ?_
   iterate 3 refine Zab ?_
   refine Zaf ?_
   refine Zis hset ?_
   refine Zaz Zah rfl (fun(_:Unit)=> [(2, .nils),(21, .nils),(22,nt 0),(23,nt 0)]) (fun _=>hp.set mid (.set (ks++ [name]))++ [SM.cell [.mp mid, .v (.l .s) nodes] true]) (fun _=>True) (fun _=>0) ?_ () trivial (Zaq ⟨rfl,rfl,rfl,rfl,trivial⟩)
   rintro _ _
   refine Zag ?_
   refine Zab ?_
   refine Zaf ?_
   refine brF rfl ?_
   refine Zag ?_
   iterate 4 refine Zab ?_
   refine Zap rfl ?_
   refine Zap rfl ?_
   refine Zap rfl ?_
   refine Zap rfl ?_
   refine Zap rfl ?_
   refine Zap rfl ?_
   refine Zap rfl ?_
   refine Zat rfl ?_
   refine Zaf ?_
   refine brF rfl ?_
   refine Zag ?_
   refine Zab ?_
   refine Zaf ?_
   exact⟨congrArg (fun x=>SV.v (.i .i64) x) eD.symm,fun _=>⟨_,rfl⟩⟩
section
variable {α : Type} (f : α → Ne.Item) (ks0 : List Txt) (l : List α)
def ZaO (i:Nat):List Txt:=ks0++(l.take i).map fun x=>(f x).1
variable {f ks0 l}
theorem ZcT {i:Nat} {x:α} (gx:l[i]? =some x):ZaO f ks0 l i++ [(f x).1]=ZaO f ks0 l (i+1):=by
 rw[ZaO,ZaO,List.append_assoc,List.take_add_one,gx];simp
theorem ZeF {i:Nat} (h:i=l.length):ZaO f ks0 l i=ks0++l.map fun x=>(f x).1:=by
 rw[ZaO,List.take_of_length_le (by omega)]
theorem ZgO {nodes:List Txt} {i:Nat} {x:α} (gx:l[i]? =some x) (e:Zbv nodes (ZaO f ks0 l i) (f x)=0):
 ZaN nodes (ZaO f ks0 l i) ((l.drop i).map f)=ZaN nodes (ZaO f ks0 l (i+1)) ((l.drop (i+1)).map f):=by
 obtain⟨hi,rfl⟩:=List.getElem?_eq_some_iff.1 gx
 rw[List.drop_eq_getElem_cons hi,List.map_cons,ZaN,decide_eq_true e,←ZcT gx]
theorem Zbs {nodes:List Txt} {i:Nat} {x:α} (gx:l[i]? =some x) (e:Zbv nodes (ZaO f ks0 l i) (f x)≠0):
 ZaN nodes (ZaO f ks0 l i) ((l.drop i).map f)=Zbv nodes (ZaO f ks0 l i) (f x):=by
 obtain⟨hi,rfl⟩:=List.getElem?_eq_some_iff.1 gx
 rw[List.drop_eq_getElem_cons hi,List.map_cons,ZaN,decide_eq_false e]
end
def hB (netc:List SV) (nodes ks:List Txt):List SM:=[.cell netc true, .set ks, .cell [.mp 1, .v (.l .s) nodes] true]
theorem ZqO {netc:List SV} {nodes ks:List Txt} (hr:rchL netc=[]): ∀m∈hB netc nodes ks,∀id∈Zlf m,id<3:=by
 intro m hm id hid
 simp only[hB,List.mem_cons,List.not_mem_nil,or_false]at hm
 rcases hm with rfl|rfl|rfl
 ·rw[Zlf,hr]at hid;exact absurd hid List.not_mem_nil
 ·exact absurd hid List.not_mem_nil
 ·have h:id=1:=by simpa[Zlf,rchL,ZdN]using hid
  omega
def vNo (nodes:List Txt) (i:Nat):TM:=[(1, .ptr 0 0 0),(3, .ptr 2 0 0),(53, .v (.l .s) nodes),(54,nt nodes.length),(55,nt i)]
set_option maxHeartbeats 16000000 in
theorem ZvQ (netc:List SV) (nodes:List Txt) (hr:rchL netc=[]) (hn:nodes.length≤1000) (hs: ∀x∈nodes,x.length≤9223372036854775806):
 LoopOK Tryz.prog Zao 0 ⟨14,0,114⟩ (Zbw Tryz.f14 5) (vNo nodes 0) (hB netc nodes [])
 (fun e tm hp'=>(e= .exit 0∧ZaN nodes [] (nodes.map noI)=0∧Ent 0 tm hp' [(1, .ptr 0 0 0),(3, .ptr 2 0 0)] (hB netc nodes nodes))∨(e= .ret∧ZaN nodes [] (nodes.map noI)≠0∧Ent 0 tm hp' [(2, .v (.i .i64) (ZaN nodes [] (nodes.map noI)))] [])):=by
 refine Zaz Zah rfl (vNo nodes) (fun i=>hB netc nodes (ZaO noI [] nodes i)) (fun i=>i≤nodes.length∧ZaN nodes [] (nodes.map noI)=ZaN nodes (ZaO noI [] nodes i) ((nodes.drop i).map noI)) (fun i=>nodes.length-i) ?_ 0 ⟨Nat.zero_le _,rfl⟩ ZaU
 rintro i ⟨hi,he⟩
 cases h1:decide ((i:Int)<(nodes.length:Int))with
 |false=>
  have e:i=nodes.length:=by have:=of_decide_eq_false h1;omega
  have e0:ZaN nodes [] (nodes.map noI)=0:=by rw[he,e,List.drop_length];rfl
  have em:ZaO noI [] nodes i=nodes:=by rw[ZeF e];exact List.map_id' nodes
  refine Zag ?_
  refine Zab ?_
  refine Zaf ?_
  refine brF h1 ?_
  refine .inl ⟨rfl,e0, ?_⟩
  rw[em]
  exact Zaq ⟨rfl,rfl,trivial⟩
 |true=>
  have hlt:i<nodes.length:=by have:=of_decide_eq_true h1;omega
  have gx0:nodes[i]? =some nodes[i]:=List.getElem?_eq_getElem hlt
  have gx:nodes[(i:Int).toNat]? =some nodes[i]:=by rw[Int.toNat_natCast];exact gx0
  have hx:nodes[i].length≤9223372036854775806:=hs _ (List.getElem_mem hlt)
  obtain⟨x,ex⟩: ∃x,nodes[i]=x:=⟨_,rfl⟩
  rw[ex]at gx gx0 hx
  have hLc:nth (hB netc nodes (ZaO noI [] nodes i)) 2=some (.cell [.mp 1, .v (.l .s) nodes] true):=rfl
  have hD:=Zt9 (hB netc nodes (ZaO noI [] nodes i)) 1 nodes (ZaO noI [] nodes i) x hx rfl
  refine Zag ?_
  refine Zab ?_
  refine Zaf ?_
  refine brT h1 ?_
  refine Zag ?_
  refine Zb4 rfl (fun _=>rfl) (Int.natCast_nonneg i) gx rfl rfl ?_
  iterate 2 refine Zab ?_
  refine Zaf ?_
  refine Zag ?_
  refine Zad rfl (Zcb rfl rfl hLc rfl rfl ?_)
  refine Zaa rfl rfl ?_
  refine Zab ?_
  refine Zad rfl ((hD.mono ?_))
  rintro _ hp' ⟨rfl,hX⟩
  refine Zaa rfl rfl ?_
  refine Zab ?_
  refine Zaf ?_
  cases h2:decide (Zbv nodes (ZaO noI [] nodes i) (Zeh x [])=0)with
  |true=>
   have e2:=of_decide_eq_true h2
   have hc:(!decide (Zbv nodes (ZaO noI [] nodes i) (Zeh x [])=0))=false:=by rw[h2];rfl
   refine Zag ?_
   iterate 2 refine Zab ?_
   refine Zaf ?_
   refine brF hc ?_
   refine Zag ?_
   iterate 2 refine Zab ?_
   refine Zaf ?_
   refine⟨i+1,⟨hlt,he.trans (ZgO gx0 e2)⟩,by show nodes.length-(i+1)<nodes.length-i;omega, ?_⟩
   obtain⟨ex,rfl⟩:=hX e2
   have em:(hB netc nodes (ZaO noI [] nodes i)).set 1 (.set (ZaO noI [] nodes i++ [x]))=hB netc nodes (ZaO noI [] nodes (i+1)):=congrArg (hB netc nodes) (ZcT (f:=noI) gx0)
   rw[em]
   exact ZeQ (Nat.zero_le _) ⟨rfl,ZaZ (by show 0<3;omega),rfl,ZaZ (by show 2<3;omega),rfl,ZaA,rfl,ZaA,congrArg (fun x=>some (SV.v (.i .i64) x)) (Zc6 (by omega)),ZaA,trivial⟩ (ZqO hr)
  |false=>
   have e2:=of_decide_eq_false h2
   have hc:(!decide (Zbv nodes (ZaO noI [] nodes i) (Zeh x [])=0))=true:=by rw[h2];rfl
   refine Zag ?_
   iterate 2 refine Zab ?_
   refine Zaf ?_
   refine brT hc ?_
   refine Zag ?_
   iterate 2 refine Zab ?_
   refine Zaf ?_
   refine Za9 ?_
   repeat (first|refine ZaT ?_|refine ZaS ?_|refine ZaH ?_)
   have e3:=he.trans (Zbs gx0 e2)
   exact .inr ⟨rfl,fun h=>e2 (e3.symm.trans h),ZcX ⟨congrArg (fun x=>some (SV.v (.i .i64) x)) e3.symm,rfl,trivial⟩⟩
abbrev Zvr:CT:= .p .s (.p .s (.p .s (.p .b .b)))
def vSw (sws:List Sw) (i:Nat):TM:=[(1, .ptr 0 0 0),(3, .ptr 2 0 0),(67, .v (.l Zvr) sws),(68,nt sws.length),(69,nt i)]
set_option maxHeartbeats 16000000 in
theorem ZwY (netc:List SV) (nodes ks:List Txt) (sws:List Sw) (hr:rchL netc=[]) (hn:nodes.length≤1000) (hl:sws.length≤1000) (hs: ∀x∈sws,x.1.length≤9223372036854775806):
 LoopOK Tryz.prog Zao 0 ⟨14,0,114⟩ (Zbw Tryz.f14 12) (vSw sws 0) (hB netc nodes ks)
 (fun e tm hp'=>(e= .exit 2∧ZaN nodes ks (sws.map swI)=0∧Ent 0 tm hp' [(1, .ptr 0 0 0),(3, .ptr 2 0 0)] (hB netc nodes (ks++sws.map (·.1))))∨(e= .ret∧ZaN nodes ks (sws.map swI)≠0∧Ent 0 tm hp' [(2, .v (.i .i64) (ZaN nodes ks (sws.map swI)))] [])):=by
 refine Zaz Zah rfl (vSw sws) (fun i=>hB netc nodes (ZaO swI ks sws i)) (fun i=>i≤sws.length∧ZaN nodes ks (sws.map swI)=ZaN nodes (ZaO swI ks sws i) ((sws.drop i).map swI)) (fun i=>sws.length-i) ?_ 0 ⟨Nat.zero_le _,by rw[ZaO,List.take_zero,List.map_nil,List.append_nil,List.drop_zero]⟩ ?_
 case refine_2=>
  have e0:ZaO swI ks sws 0=ks:=by rw[ZaO,List.take_zero,List.map_nil,List.append_nil]
  rw[e0];exact ZaU
 rintro i ⟨hi,he⟩
 cases h1:decide ((i:Int)<(sws.length:Int))with
 |false=>
  have e:i=sws.length:=by have:=of_decide_eq_false h1;omega
  have e0:ZaN nodes ks (sws.map swI)=0:=by rw[he,e,List.drop_length];rfl
  have em:ZaO swI ks sws i=ks++sws.map (·.1):=ZeF e
  refine Zag ?_
  refine Zab ?_
  refine Zaf ?_
  refine brF h1 ?_
  refine .inl ⟨rfl,e0, ?_⟩
  rw[em]
  exact Zaq ⟨rfl,rfl,trivial⟩
 |true=>
  have hlt:i<sws.length:=by have:=of_decide_eq_true h1;omega
  have gx0:sws[i]? =some sws[i]:=List.getElem?_eq_getElem hlt
  have gx:sws[(i:Int).toNat]? =some sws[i]:=by rw[Int.toNat_natCast];exact gx0
  have hx:sws[i].1.length≤9223372036854775806:=hs _ (List.getElem_mem hlt)
  obtain⟨x,ex⟩: ∃x,sws[i]=x:=⟨_,rfl⟩
  rw[ex]at gx gx0 hx
  have hD:=ZfW [.cell netc true, .set (ZaO swI ks sws i), .cell [.mp 1, .v (.l .s) nodes] true, .cell [.v .s x.1, .v .s x.2.1, .v .s x.2.2.1, .v .b x.2.2.2.1, .v .b x.2.2.2.2] true, .row .s [x.2.1,x.2.2.1] true] 1 4 nodes (ZaO swI ks sws i) x.1 [x.2.1,x.2.2.1] hx hn (Nat.le_of_ble_eq_true rfl) rfl rfl (by decide)
  refine Zag ?_
  refine Zab ?_
  refine Zaf ?_
  refine brT h1 ?_
  refine Zag ?_
  refine Zb4 rfl (fun _=>rfl) (Int.natCast_nonneg i) gx rfl rfl ?_
  refine Zab ?_
  refine Zbq ?_
  refine Zad rfl (Zax rfl rfl rfl rfl rfl rfl rfl rfl ?_)
  refine Zau rfl ?_
  refine Zaf ?_
  refine Zag ?_
  refine Zak rfl (fun _=>rfl) rfl rfl rfl ?_
  refine Zab ?_
  refine Zak rfl (fun _=>rfl) rfl rfl rfl ?_
  refine Zab ?_
  refine Zak rfl (fun _=>rfl) rfl rfl rfl ?_
  refine Zab ?_
  refine Zak rfl (fun _=>rfl) rfl rfl rfl ?_
  refine Zbq ?_
  refine Zad rfl ((hD.mono ?_))
  rintro _ hp' ⟨rfl,hX⟩
  refine Zaa rfl rfl ?_
  refine Zab ?_
  refine Zaf ?_
  cases h2:decide (Zbv nodes (ZaO swI ks sws i) (swI x)=0)with
  |true=>
   have e2:=of_decide_eq_true h2
   have hc:(!decide (Zbv nodes (ZaO swI ks sws i) (Zeh x.1 [x.2.1,x.2.2.1])=0))=false:=by show(!decide (Zbv nodes (ZaO swI ks sws i) (swI x)=0))=false;rw[h2];rfl
   refine Zag ?_
   iterate 2 refine Zab ?_
   refine Zaf ?_
   refine brF hc ?_
   refine Zag ?_
   iterate 2 refine Zab ?_
   refine Zaf ?_
   refine⟨i+1,⟨hlt,he.trans (ZgO gx0 e2)⟩,by show sws.length-(i+1)<sws.length-i;omega, ?_⟩
   obtain⟨ex,rfl⟩:=hX e2
   have em: ∀A B:SM,[SM.cell netc true, .set (ZaO swI ks sws i), .cell [.mp 1, .v (.l .s) nodes] true,A,B].set 1 (.set (ZaO swI ks sws i++ [x.1]))++ex=hB netc nodes (ZaO swI ks sws (i+1))++(A::B::ex):=fun A B=>congrArg (fun z=>hB netc nodes z++(A::B::ex)) (ZcT (f:=swI) gx0)
   rw[em]
   exact ZeQ (Nat.zero_le _) ⟨rfl,ZaZ (by show 0<3;omega),rfl,ZaZ (by show 2<3;omega),rfl,ZaA,rfl,ZaA,congrArg (fun x=>some (SV.v (.i .i64) x)) (Zc6 (by omega)),ZaA,trivial⟩ (ZqO hr)
  |false=>
   have e2:=of_decide_eq_false h2
   have hc:(!decide (Zbv nodes (ZaO swI ks sws i) (Zeh x.1 [x.2.1,x.2.2.1])=0))=true:=by show(!decide (Zbv nodes (ZaO swI ks sws i) (swI x)=0))=true;rw[h2];rfl
   refine Zag ?_
   iterate 2 refine Zab ?_
   refine Zaf ?_
   refine brT hc ?_
   refine Zag ?_
   iterate 2 refine Zab ?_
   refine Zaf ?_
   refine Za9 ?_
   repeat (first|refine ZaT ?_|refine ZaS ?_|refine ZaH ?_)
   have e3:=he.trans (Zbs gx0 e2)
   exact .inr ⟨rfl,fun h=>e2 (e3.symm.trans h),ZcX ⟨congrArg (fun x=>some (SV.v (.i .i64) x)) e3.symm,rfl,trivial⟩⟩
theorem ZhM {nodes ks:List Txt} {name:Txt} {ns:List Txt} {bad:Bool}:Zbv nodes ks (name,ns,decide (ns.length=2),bad)=Zcy (Zbv nodes ks (Zeh name ns)) (bif bad then 4 else 0):=by
 simp only[Zbv]
 generalize ZbJ name=b1
 generalize Zfc name ks=b2
 generalize(ns.all fun s=>Zfc s nodes)=b3
 generalize(decide (ns.length=2)&&(ns.getD 0 []==ns.getD 1 []))=b4
 cases b1<;>cases b2<;>cases b3<;>cases b4<;>rfl
abbrev Zys:CT:= .p .s (.p .s (.p .s (.p (.i .i64) (.p (.i .i64) (.p (.i .i64) (.p (.i .i64) (.p (.i .i64) (.i .i64))))))))
def vBr (brs:List Br) (i:Nat):TM:=[(1, .ptr 0 0 0),(3, .ptr 2 0 0),(87, .v (.l Zys) brs),(88,nt brs.length),(89,nt i)]
set_option maxHeartbeats 16000000 in
theorem ZvA (netc:List SV) (nodes ks:List Txt) (brs:List Br) (hr:rchL netc=[]) (hn:nodes.length≤1000) (hl:brs.length≤1000) (hs: ∀x∈brs,x.1.length≤9223372036854775806):
 LoopOK Tryz.prog Zao 0 ⟨14,0,114⟩ (Zbw Tryz.f14 19) (vBr brs 0) (hB netc nodes ks)
 (fun e tm hp'=>(e= .exit 4∧ZaN nodes ks (brs.map brI)=0∧Ent 0 tm hp' [(1, .ptr 0 0 0),(3, .ptr 2 0 0)] (hB netc nodes (ks++brs.map (·.1))))∨(e= .ret∧ZaN nodes ks (brs.map brI)≠0∧Ent 0 tm hp' [(2, .v (.i .i64) (ZaN nodes ks (brs.map brI)))] [])):=by
 refine Zaz Zah rfl (vBr brs) (fun i=>hB netc nodes (ZaO brI ks brs i)) (fun i=>i≤brs.length∧ZaN nodes ks (brs.map brI)=ZaN nodes (ZaO brI ks brs i) ((brs.drop i).map brI)) (fun i=>brs.length-i) ?_ 0 ⟨Nat.zero_le _,by rw[ZaO,List.take_zero,List.map_nil,List.append_nil,List.drop_zero]⟩ ?_
 case refine_2=>
  have e0:ZaO brI ks brs 0=ks:=by rw[ZaO,List.take_zero,List.map_nil,List.append_nil]
  rw[e0];exact ZaU
 rintro i ⟨hi,he⟩
 cases h1:decide ((i:Int)<(brs.length:Int))with
 |false=>
  have e:i=brs.length:=by have:=of_decide_eq_false h1;omega
  have e0:ZaN nodes ks (brs.map brI)=0:=by rw[he,e,List.drop_length];rfl
  have em:ZaO brI ks brs i=ks++brs.map (·.1):=ZeF e
  refine Zag ?_
  refine Zab ?_
  refine Zaf ?_
  refine brF h1 ?_
  refine .inl ⟨rfl,e0, ?_⟩
  rw[em]
  exact Zaq ⟨rfl,rfl,trivial⟩
 |true=>
  have hlt:i<brs.length:=by have:=of_decide_eq_true h1;omega
  have gx0:brs[i]? =some brs[i]:=List.getElem?_eq_getElem hlt
  have gx:brs[(i:Int).toNat]? =some brs[i]:=by rw[Int.toNat_natCast];exact gx0
  have hx:brs[i].1.length≤9223372036854775806:=hs _ (List.getElem_mem hlt)
  obtain⟨x,ex⟩: ∃x,brs[i]=x:=⟨_,rfl⟩
  rw[ex]at gx gx0 hx
  have hD:=ZfW [.cell netc true, .set (ZaO brI ks brs i), .cell [.mp 1, .v (.l .s) nodes] true, .cell [.v .s x.1, .v .s x.2.1, .v .s x.2.2.1, .v (.i .i64) x.2.2.2.1, .v (.i .i64) x.2.2.2.2.1, .v (.i .i64) x.2.2.2.2.2.1, .v (.i .i64) x.2.2.2.2.2.2.1, .v (.i .i64) x.2.2.2.2.2.2.2.1, .v (.i .i64) x.2.2.2.2.2.2.2.2] true, .row .s [x.2.1,x.2.2.1] true] 1 4 nodes (ZaO brI ks brs i) x.1 [x.2.1,x.2.2.1] hx hn (Nat.le_of_ble_eq_true rfl) rfl rfl (by decide)
  refine Zag ?_
  refine Zab ?_
  refine Zaf ?_
  refine brT h1 ?_
  refine Zag ?_
  refine Zb4 rfl (fun _=>rfl) (Int.natCast_nonneg i) gx rfl rfl ?_
  refine Zab ?_
  refine Zbq ?_
  refine Zad rfl (Zax rfl rfl rfl rfl rfl rfl rfl rfl ?_)
  refine Zau rfl ?_
  refine Zaf ?_
  refine Zag ?_
  refine Zak rfl (fun _=>rfl) rfl rfl rfl ?_
  refine Zab ?_
  refine Zak rfl (fun _=>rfl) rfl rfl rfl ?_
  refine Zab ?_
  refine Zak rfl (fun _=>rfl) rfl rfl rfl ?_
  refine Zab ?_
  refine Zak rfl (fun _=>rfl) rfl rfl rfl ?_
  refine Zbq ?_
  refine Zad rfl ((hD.mono ?_))
  rintro _ hp' ⟨rfl,hX⟩
  refine Zaa rfl rfl ?_
  refine Zab ?_
  refine Zaf ?_
  have eB:Zbv nodes (ZaO brI ks brs i) (brI x)=Zcy (Zbv nodes (ZaO brI ks brs i) (Zeh x.1 [x.2.1,x.2.2.1])) (bif Zqq x then 4 else 0):=ZhM
  cases h2:decide (Zbv nodes (ZaO brI ks brs i) (Zeh x.1 [x.2.1,x.2.2.1])=0)with
  |true=>
   have e2:=of_decide_eq_true h2
   have hc:(!decide (Zbv nodes (ZaO brI ks brs i) (Zeh x.1 [x.2.1,x.2.2.1])=0))=false:=by rw[h2];rfl
   rw[Zcy,h2]at eB
   obtain⟨ex,rfl⟩:=hX e2
   have hBr:=ZtM x
   refine Zag ?_
   iterate 2 refine Zab ?_
   refine Zaf ?_
   refine brF hc ?_
   cases h3:Zqq x with
   |false=>
    rw[h3]at eB hBr
    have eB:Zbv nodes (ZaO brI ks brs i) (brI x)=0:=eB
    refine Zag ?_
    refine Zak rfl (fun _=>rfl) rfl rfl rfl ?_
    refine Zad rfl ((hBr).mono ?_)
    rintro _ rfl
    refine Zaa rfl rfl ?_
    refine Zab ?_
    refine Zaf ?_
    refine Zag ?_
    iterate 2 refine Zab ?_
    refine Zaf ?_
    refine brF rfl ?_
    refine Zag ?_
    iterate 2 refine Zab ?_
    refine Zaf ?_
    refine⟨i+1,⟨hlt,he.trans (ZgO gx0 eB)⟩,by show brs.length-(i+1)<brs.length-i;omega, ?_⟩
    have em: ∀A B:SM,[SM.cell netc true, .set (ZaO brI ks brs i), .cell [.mp 1, .v (.l .s) nodes] true,A,B].set 1 (.set (ZaO brI ks brs i++ [x.1]))++ex=hB netc nodes (ZaO brI ks brs (i+1))++(A::B::ex):=fun A B=>congrArg (fun z=>hB netc nodes z++(A::B::ex)) (ZcT (f:=brI) gx0)
    rw[em]
    exact ZeQ (Nat.zero_le _) ⟨rfl,ZaZ (by show 0<3;omega),rfl,ZaZ (by show 2<3;omega),rfl,ZaA,rfl,ZaA,congrArg (fun x=>some (SV.v (.i .i64) x)) (Zc6 (by omega)),ZaA,trivial⟩ (ZqO hr)
   |true=>
    rw[h3]at eB hBr
    have eB:Zbv nodes (ZaO brI ks brs i) (brI x)=4:=eB
    have e3:=he.trans (Zbs gx0 (by rw[eB];decide))
    refine Zag ?_
    refine Zak rfl (fun _=>rfl) rfl rfl rfl ?_
    refine Zad rfl ((hBr).mono ?_)
    rintro _ rfl
    refine Zaa rfl rfl ?_
    refine Zab ?_
    refine Zaf ?_
    refine Zag ?_
    iterate 2 refine Zab ?_
    refine Zaf ?_
    refine brT rfl ?_
    refine Zag ?_
    iterate 2 refine Zab ?_
    refine Zaf ?_
    refine Za9 ?_
    repeat (first|refine ZaT ?_|refine ZaS ?_|refine ZaH ?_)
    exact .inr ⟨rfl,(fun h=>by rw[e3,eB]at h;cases h),ZcX ⟨congrArg (fun x=>some (SV.v (.i .i64) x)) (e3.trans eB).symm,rfl,trivial⟩⟩
  |false=>
   have e2:=of_decide_eq_false h2
   have hc:(!decide (Zbv nodes (ZaO brI ks brs i) (Zeh x.1 [x.2.1,x.2.2.1])=0))=true:=by rw[h2];rfl
   rw[Zcy,h2]at eB
   have eB:Zbv nodes (ZaO brI ks brs i) (brI x)=Zbv nodes (ZaO brI ks brs i) (Zeh x.1 [x.2.1,x.2.2.1]):=eB
   refine Zag ?_
   iterate 2 refine Zab ?_
   refine Zaf ?_
   refine brT hc ?_
   refine Zag ?_
   iterate 2 refine Zab ?_
   refine Zaf ?_
   refine Za9 ?_
   repeat (first|refine ZaT ?_|refine ZaS ?_|refine ZaH ?_)
   have e3:=(he.trans (Zbs gx0 (by rw[eB];exact e2))).trans eB
   exact .inr ⟨rfl,fun h=>e2 (e3.symm.trans h),ZcX ⟨congrArg (fun x=>some (SV.v (.i .i64) x)) e3.symm,rfl,trivial⟩⟩
end Go.Proofs.YtkhpbclcfldhmaaGreatDoor
