/-
 netmodel.Check: the loops over the nodes, the switches and the branches.
-/
import Derived.Test.YtgngdcpglnfkeaaDoorU3
set_option linter.constructorNameAsVariable false
set_option linter.unusedSimpArgs false
set_option linter.unusedVariables false
namespace Go.Proofs.YtgngdcpglnfkeaaDoor
open Go.Am Go.Tx Ne
set_option maxRecDepth 100000
set_option maxHeartbeats 32000000 in
theorem ZrI (hp:List SM) (mid:Nat) (nodes ks:List Txt) (name:Txt) (hs:name.length≤9223372036854775806) (hm:nth hp mid=some (.set ks)):
 OpenOK Tryd.prog Zaw 52 [.agg [.mp mid, .v (.l .s) nodes], .v .s name, .nils] hp (Zwo hp mid nodes ks name []):=by
 refine ZaO (fn:=Tryd.f52) (code:=Za0 Tryd.f52) Zao (by kernel_rfl) Tryd.func52 (by kernel_rfl) (Nat.le_of_ble_eq_true (by kernel_rfl)) ?_
 intro base
 have hN:=Zsl name hs
 have hLc:nth (hp++ [SM.cell [.mp mid, .v (.l .s) nodes] true]) hp.length=some (.cell [.mp mid, .v (.l .s) nodes] true):=ZbV
 have hm1:nth (hp++ [SM.cell [.mp mid, .v (.l .s) nodes] true]) mid=some (.set ks):=Zc5 hm
 cases h1:Za5 name with
 |false=>
  rw[h1]at hN
  have eD:=Znu (nodes:=nodes) (ks:=ks) (it:=Zd6 name []) h1
  refine Zae ?_
  refine ZaR ?_
  refine Zab ?_
  refine Zaf ?_
  refine Zae ?_
  refine Zab ?_
  refine Zac rfl ((hN).mono ?_)
  rintro _ rfl
  refine Zaa rfl rfl ?_
  iterate 2 refine Zab ?_
  refine Zaf ?_
  refine brT rfl ?_
  refine Zae ?_
  refine Zab ?_
  refine Zaf ?_
  exact⟨congrArg (fun x=>SV.v (.i .i64) x) eD.symm,fun h=>by rw[eD]at h;cases h⟩
 |true=>
  rw[h1]at hN
  cases h2:ZoO name ks with
  |true=>
   have eD:=ZnC (nodes:=nodes) (it:=Zd6 name []) h1 ((Zlc name ks).symm.trans h2)
   refine Zae ?_
   refine ZaR ?_
   refine Zab ?_
   refine Zaf ?_
   refine Zae ?_
   refine Zab ?_
   refine Zac rfl ((hN).mono ?_)
   rintro _ rfl
   refine Zaa rfl rfl ?_
   iterate 2 refine Zab ?_
   refine Zaf ?_
   refine brF rfl ?_
   refine Zae ?_
   refine Zab ?_
   refine Zac rfl (ZaK rfl rfl hLc rfl rfl ?_)
   refine Zaa rfl rfl ?_
   refine Zab ?_
   refine Zac rfl (Zvx rfl rfl rfl rfl hm1 ?_)
   refine Zaa rfl rfl ?_
   refine Zab ?_
   refine Zaf ?_
   refine brT h2 ?_
   refine Zae ?_
   refine Zab ?_
   refine Zaf ?_
   exact⟨congrArg (fun x=>SV.v (.i .i64) x) eD.symm,fun h=>by rw[eD]at h;cases h⟩
  |false=>
   have h2':ZcN name ks=false:=(Zlc name ks).symm.trans h2
   have hset:(hp++ [SM.cell [.mp mid, .v (.l .s) nodes] true]).set mid (.set (ZqU name ks))=hp.set mid (.set (ks++ [name]))++ [.cell [.mp mid, .v (.l .s) nodes] true]:=by rw[Zno hm,Zjt h2]
   have eD:Zbf nodes ks (Zd6 name [])=0:=Zla (nodes:=nodes) (it:=Zd6 name []) h1 h2' rfl
   refine Zae ?_
   refine ZaR ?_
   refine Zab ?_
   refine Zaf ?_
   refine Zae ?_
   refine Zab ?_
   refine Zac rfl ((hN).mono ?_)
   rintro _ rfl
   refine Zaa rfl rfl ?_
   iterate 2 refine Zab ?_
   refine Zaf ?_
   refine brF rfl ?_
   refine Zae ?_
   refine Zab ?_
   refine Zac rfl (ZaK rfl rfl hLc rfl rfl ?_)
   refine Zaa rfl rfl ?_
   refine Zab ?_
   refine Zac rfl (Zvx rfl rfl rfl rfl hm1 ?_)
   refine Zaa rfl rfl ?_
   refine Zab ?_
   refine Zaf ?_
   refine brF h2 ?_
   refine Zae ?_
   refine Zab ?_
   refine Zac rfl (ZaK rfl rfl hLc rfl rfl ?_)
   refine Zaa rfl rfl ?_
   refine Zab ?_
   refine Zac rfl (Zwu rfl rfl rfl rfl rfl hm1 ?_)
   refine Zar rfl ?_
   refine Zaf ?_
   refine Zae ?_
   iterate 3 refine Zab ?_
   refine Zaf ?_
   refine Ztl hset ?_
   refine ZaH Zao rfl (fun(_:Unit)=> [(2, .nils),(21, .nils),(22,nt 0),(23,nt 0)]) (fun _=>hp.set mid (.set (ks++ [name]))++ [SM.cell [.mp mid, .v (.l .s) nodes] true]) (fun _=>True) (fun _=>0) ?_ () trivial (Zai ⟨rfl,rfl,rfl,rfl,trivial⟩)
   rintro _ _
   refine Zae ?_
   refine Zab ?_
   refine Zaf ?_
   refine brF rfl ?_
   refine Zae ?_
   iterate 4 refine Zab ?_
   refine Zaj rfl ?_
   refine Zaj rfl ?_
   refine Zaj rfl ?_
   refine Zaj rfl ?_
   refine Zaj rfl ?_
   refine Zaj rfl ?_
   refine Zaj rfl ?_
   refine Zas rfl ?_
   refine Zaf ?_
   refine brF rfl ?_
   refine Zae ?_
   refine Zab ?_
   refine Zaf ?_
   exact⟨congrArg (fun x=>SV.v (.i .i64) x) eD.symm,fun _=>⟨_,rfl⟩⟩
section
variable {α : Type} (f : α → Ne.Item) (ks0 : List Txt) (l : List α)
def ZaL (i:Nat):List Txt:=ks0++(l.take i).map fun x=>(f x).1
variable {f ks0 l}
theorem Zca {i:Nat} {x:α} (gx:l[i]? =some x):ZaL f ks0 l i++ [(f x).1]=ZaL f ks0 l (i+1):=by
 rw[ZaL,ZaL,List.append_assoc,List.take_add_one,gx];simp
theorem ZdT {i:Nat} (h:i=l.length):ZaL f ks0 l i=ks0++l.map fun x=>(f x).1:=by
 rw[ZaL,List.take_of_length_le (by omega)]
theorem Zek {nodes:List Txt} {i:Nat} {x:α} (gx:l[i]? =some x) (e:Zbf nodes (ZaL f ks0 l i) (f x)=0):
 ZaG nodes (ZaL f ks0 l i) ((l.drop i).map f)=ZaG nodes (ZaL f ks0 l (i+1)) ((l.drop (i+1)).map f):=by
 obtain⟨hi,rfl⟩:=List.getElem?_eq_some_iff.1 gx
 rw[List.drop_eq_getElem_cons hi,List.map_cons,ZaG,decide_eq_true e,←Zca gx]
theorem Zbh {nodes:List Txt} {i:Nat} {x:α} (gx:l[i]? =some x) (e:Zbf nodes (ZaL f ks0 l i) (f x)≠0):
 ZaG nodes (ZaL f ks0 l i) ((l.drop i).map f)=Zbf nodes (ZaL f ks0 l i) (f x):=by
 obtain⟨hi,rfl⟩:=List.getElem?_eq_some_iff.1 gx
 rw[List.drop_eq_getElem_cons hi,List.map_cons,ZaG,decide_eq_false e]
end
def hB (netc:List SV) (nodes ks:List Txt):List SM:=[.cell netc true, .set ks, .cell [.mp 1, .v (.l .s) nodes] true]
theorem Zp4 {netc:List SV} {nodes ks:List Txt} (hr:rchL netc=[]): ∀m∈hB netc nodes ks,∀id∈Zhk m,id<3:=by
 intro m hm id hid
 simp only[hB,List.mem_cons,List.not_mem_nil,or_false]at hm
 rcases hm with rfl|rfl|rfl
 ·rw[Zhk,hr]at hid;exact absurd hid List.not_mem_nil
 ·exact absurd hid List.not_mem_nil
 ·have h:id=1:=by simpa[Zhk,rchL,Zcz]using hid
  omega
def vNo (nodes:List Txt) (i:Nat):TM:=[(1, .ptr 0 0 0),(3, .ptr 2 0 0),(53, .v (.l .s) nodes),(54,nt nodes.length),(55,nt i)]
set_option maxHeartbeats 16000000 in
theorem ZtH (netc:List SV) (nodes:List Txt) (hr:rchL netc=[]) (hn:nodes.length≤1000) (hs: ∀x∈nodes,x.length≤9223372036854775806):
 LoopOK Tryd.prog Zaw 0 ⟨24,0,114⟩ (Zbt Tryd.f24 5) (vNo nodes 0) (hB netc nodes [])
 (fun e tm hp'=>(e= .exit 0∧ZaG nodes [] (nodes.map noI)=0∧Ent 0 tm hp' [(1, .ptr 0 0 0),(3, .ptr 2 0 0)] (hB netc nodes nodes))∨(e= .ret∧ZaG nodes [] (nodes.map noI)≠0∧Ent 0 tm hp' [(2, .v (.i .i64) (ZaG nodes [] (nodes.map noI)))] [])):=by
 refine ZaH Zao rfl (vNo nodes) (fun i=>hB netc nodes (ZaL noI [] nodes i)) (fun i=>i≤nodes.length∧ZaG nodes [] (nodes.map noI)=ZaG nodes (ZaL noI [] nodes i) ((nodes.drop i).map noI)) (fun i=>nodes.length-i) ?_ 0 ⟨Nat.zero_le _,rfl⟩ ZaW
 rintro i ⟨hi,he⟩
 cases h1:decide ((i:Int)<(nodes.length:Int))with
 |false=>
  have e:i=nodes.length:=by have:=of_decide_eq_false h1;omega
  have e0:ZaG nodes [] (nodes.map noI)=0:=by rw[he,e,List.drop_length];rfl
  have em:ZaL noI [] nodes i=nodes:=by rw[ZdT e];exact List.map_id' nodes
  refine Zae ?_
  refine Zab ?_
  refine Zaf ?_
  refine brF h1 ?_
  refine .inl ⟨rfl,e0, ?_⟩
  rw[em]
  exact Zai ⟨rfl,rfl,trivial⟩
 |true=>
  have hlt:i<nodes.length:=by have:=of_decide_eq_true h1;omega
  have gx0:nodes[i]? =some nodes[i]:=List.getElem?_eq_getElem hlt
  have gx:nodes[(i:Int).toNat]? =some nodes[i]:=by rw[Int.toNat_natCast];exact gx0
  have hx:nodes[i].length≤9223372036854775806:=hs _ (List.getElem_mem hlt)
  obtain⟨x,ex⟩: ∃x,nodes[i]=x:=⟨_,rfl⟩
  rw[ex]at gx gx0 hx
  have hLc:nth (hB netc nodes (ZaL noI [] nodes i)) 2=some (.cell [.mp 1, .v (.l .s) nodes] true):=rfl
  have hD:=ZrI (hB netc nodes (ZaL noI [] nodes i)) 1 nodes (ZaL noI [] nodes i) x hx rfl
  refine Zae ?_
  refine Zab ?_
  refine Zaf ?_
  refine brT h1 ?_
  refine Zae ?_
  refine Zbb rfl (fun _=>rfl) (Int.natCast_nonneg i) gx rfl rfl ?_
  iterate 2 refine Zab ?_
  refine Zaf ?_
  refine Zae ?_
  refine Zac rfl (ZaK rfl rfl hLc rfl rfl ?_)
  refine Zaa rfl rfl ?_
  refine Zab ?_
  refine Zac rfl ((hD.mono ?_))
  rintro _ hp' ⟨rfl,hX⟩
  refine Zaa rfl rfl ?_
  refine Zab ?_
  refine Zaf ?_
  cases h2:decide (Zbf nodes (ZaL noI [] nodes i) (Zd6 x [])=0)with
  |true=>
   have e2:=of_decide_eq_true h2
   have hc:(!decide (Zbf nodes (ZaL noI [] nodes i) (Zd6 x [])=0))=false:=by rw[h2];rfl
   refine Zae ?_
   iterate 2 refine Zab ?_
   refine Zaf ?_
   refine brF hc ?_
   refine Zae ?_
   iterate 2 refine Zab ?_
   refine Zaf ?_
   refine⟨i+1,⟨hlt,he.trans (Zek gx0 e2)⟩,by show nodes.length-(i+1)<nodes.length-i;omega, ?_⟩
   obtain⟨ex,rfl⟩:=hX e2
   have em:(hB netc nodes (ZaL noI [] nodes i)).set 1 (.set (ZaL noI [] nodes i++ [x]))=hB netc nodes (ZaL noI [] nodes (i+1)):=congrArg (hB netc nodes) (Zca (f:=noI) gx0)
   rw[em]
   exact ZbQ (Nat.zero_le _) ⟨rfl,ZaS (by show 0<3;omega),rfl,ZaS (by show 2<3;omega),rfl,Za4,rfl,Za4,congrArg (fun x=>some (SV.v (.i .i64) x)) (Za7 (by omega)),Za4,trivial⟩ (Zp4 hr)
  |false=>
   have e2:=of_decide_eq_false h2
   have hc:(!decide (Zbf nodes (ZaL noI [] nodes i) (Zd6 x [])=0))=true:=by rw[h2];rfl
   refine Zae ?_
   iterate 2 refine Zab ?_
   refine Zaf ?_
   refine brT hc ?_
   refine Zae ?_
   iterate 2 refine Zab ?_
   refine Zaf ?_
   refine ZaC ?_
   repeat (first|refine Zay ?_|refine Zax ?_|refine Zav ?_)
   have e3:=he.trans (Zbh gx0 e2)
   exact .inr ⟨rfl,fun h=>e2 (e3.symm.trans h),Zbj ⟨congrArg (fun x=>some (SV.v (.i .i64) x)) e3.symm,rfl,trivial⟩⟩
abbrev Ze6:CT:= .p .s (.p .s (.p .s (.p .b .b)))
def vSw (sws:List Sw) (i:Nat):TM:=[(1, .ptr 0 0 0),(3, .ptr 2 0 0),(67, .v (.l Ze6) sws),(68,nt sws.length),(69,nt i)]
set_option maxHeartbeats 16000000 in
theorem ZtE (netc:List SV) (nodes ks:List Txt) (sws:List Sw) (hr:rchL netc=[]) (hn:nodes.length≤1000) (hl:sws.length≤1000) (hs: ∀x∈sws,x.1.length≤9223372036854775806):
 LoopOK Tryd.prog Zaw 0 ⟨24,0,114⟩ (Zbt Tryd.f24 12) (vSw sws 0) (hB netc nodes ks)
 (fun e tm hp'=>(e= .exit 2∧ZaG nodes ks (sws.map swI)=0∧Ent 0 tm hp' [(1, .ptr 0 0 0),(3, .ptr 2 0 0)] (hB netc nodes (ks++sws.map (·.1))))∨(e= .ret∧ZaG nodes ks (sws.map swI)≠0∧Ent 0 tm hp' [(2, .v (.i .i64) (ZaG nodes ks (sws.map swI)))] [])):=by
 refine ZaH Zao rfl (vSw sws) (fun i=>hB netc nodes (ZaL swI ks sws i)) (fun i=>i≤sws.length∧ZaG nodes ks (sws.map swI)=ZaG nodes (ZaL swI ks sws i) ((sws.drop i).map swI)) (fun i=>sws.length-i) ?_ 0 ⟨Nat.zero_le _,by rw[ZaL,List.take_zero,List.map_nil,List.append_nil,List.drop_zero]⟩ ?_
 case refine_2=>
  have e0:ZaL swI ks sws 0=ks:=by rw[ZaL,List.take_zero,List.map_nil,List.append_nil]
  rw[e0];exact ZaW
 rintro i ⟨hi,he⟩
 cases h1:decide ((i:Int)<(sws.length:Int))with
 |false=>
  have e:i=sws.length:=by have:=of_decide_eq_false h1;omega
  have e0:ZaG nodes ks (sws.map swI)=0:=by rw[he,e,List.drop_length];rfl
  have em:ZaL swI ks sws i=ks++sws.map (·.1):=ZdT e
  refine Zae ?_
  refine Zab ?_
  refine Zaf ?_
  refine brF h1 ?_
  refine .inl ⟨rfl,e0, ?_⟩
  rw[em]
  exact Zai ⟨rfl,rfl,trivial⟩
 |true=>
  have hlt:i<sws.length:=by have:=of_decide_eq_true h1;omega
  have gx0:sws[i]? =some sws[i]:=List.getElem?_eq_getElem hlt
  have gx:sws[(i:Int).toNat]? =some sws[i]:=by rw[Int.toNat_natCast];exact gx0
  have hx:sws[i].1.length≤9223372036854775806:=hs _ (List.getElem_mem hlt)
  obtain⟨x,ex⟩: ∃x,sws[i]=x:=⟨_,rfl⟩
  rw[ex]at gx gx0 hx
  have hD:=Zf4 [.cell netc true, .set (ZaL swI ks sws i), .cell [.mp 1, .v (.l .s) nodes] true, .cell [.v .s x.1, .v .s x.2.1, .v .s x.2.2.1, .v .b x.2.2.2.1, .v .b x.2.2.2.2] true, .row .s [x.2.1,x.2.2.1] true] 1 4 nodes (ZaL swI ks sws i) x.1 [x.2.1,x.2.2.1] hx hn (Nat.le_of_ble_eq_true rfl) rfl rfl (by decide)
  refine Zae ?_
  refine Zab ?_
  refine Zaf ?_
  refine brT h1 ?_
  refine Zae ?_
  refine Zbb rfl (fun _=>rfl) (Int.natCast_nonneg i) gx rfl rfl ?_
  refine Zab ?_
  refine ZaR ?_
  refine Zac rfl (ZaB rfl rfl rfl rfl rfl rfl rfl rfl ?_)
  refine Zar rfl ?_
  refine Zaf ?_
  refine Zae ?_
  refine Zag rfl (fun _=>rfl) rfl rfl rfl ?_
  refine Zab ?_
  refine Zag rfl (fun _=>rfl) rfl rfl rfl ?_
  refine Zab ?_
  refine Zag rfl (fun _=>rfl) rfl rfl rfl ?_
  refine Zab ?_
  refine Zag rfl (fun _=>rfl) rfl rfl rfl ?_
  refine ZaR ?_
  refine Zac rfl ((hD.mono ?_))
  rintro _ hp' ⟨rfl,hX⟩
  refine Zaa rfl rfl ?_
  refine Zab ?_
  refine Zaf ?_
  cases h2:decide (Zbf nodes (ZaL swI ks sws i) (swI x)=0)with
  |true=>
   have e2:=of_decide_eq_true h2
   have hc:(!decide (Zbf nodes (ZaL swI ks sws i) (Zd6 x.1 [x.2.1,x.2.2.1])=0))=false:=by show(!decide (Zbf nodes (ZaL swI ks sws i) (swI x)=0))=false;rw[h2];rfl
   refine Zae ?_
   iterate 2 refine Zab ?_
   refine Zaf ?_
   refine brF hc ?_
   refine Zae ?_
   iterate 2 refine Zab ?_
   refine Zaf ?_
   refine⟨i+1,⟨hlt,he.trans (Zek gx0 e2)⟩,by show sws.length-(i+1)<sws.length-i;omega, ?_⟩
   obtain⟨ex,rfl⟩:=hX e2
   have em: ∀A B:SM,[SM.cell netc true, .set (ZaL swI ks sws i), .cell [.mp 1, .v (.l .s) nodes] true,A,B].set 1 (.set (ZaL swI ks sws i++ [x.1]))++ex=hB netc nodes (ZaL swI ks sws (i+1))++(A::B::ex):=fun A B=>congrArg (fun z=>hB netc nodes z++(A::B::ex)) (Zca (f:=swI) gx0)
   rw[em]
   exact ZbQ (Nat.zero_le _) ⟨rfl,ZaS (by show 0<3;omega),rfl,ZaS (by show 2<3;omega),rfl,Za4,rfl,Za4,congrArg (fun x=>some (SV.v (.i .i64) x)) (Za7 (by omega)),Za4,trivial⟩ (Zp4 hr)
  |false=>
   have e2:=of_decide_eq_false h2
   have hc:(!decide (Zbf nodes (ZaL swI ks sws i) (Zd6 x.1 [x.2.1,x.2.2.1])=0))=true:=by show(!decide (Zbf nodes (ZaL swI ks sws i) (swI x)=0))=true;rw[h2];rfl
   refine Zae ?_
   iterate 2 refine Zab ?_
   refine Zaf ?_
   refine brT hc ?_
   refine Zae ?_
   iterate 2 refine Zab ?_
   refine Zaf ?_
   refine ZaC ?_
   repeat (first|refine Zay ?_|refine Zax ?_|refine Zav ?_)
   have e3:=he.trans (Zbh gx0 e2)
   exact .inr ⟨rfl,fun h=>e2 (e3.symm.trans h),Zbj ⟨congrArg (fun x=>some (SV.v (.i .i64) x)) e3.symm,rfl,trivial⟩⟩
theorem Zhm {nodes ks:List Txt} {name:Txt} {ns:List Txt} {bad:Bool}:Zbf nodes ks (name,ns,decide (ns.length=2),bad)=Zb6 (Zbf nodes ks (Zd6 name ns)) (bif bad then 4 else 0):=by
 simp only[Zbf]
 generalize Za5 name=b1
 generalize ZcN name ks=b2
 generalize(ns.all fun s=>ZcN s nodes)=b3
 generalize(decide (ns.length=2)&&(ns.getD 0 []==ns.getD 1 []))=b4
 cases b1<;>cases b2<;>cases b3<;>cases b4<;>rfl
abbrev Zfu:CT:= .p .s (.p .s (.p .s (.p (.i .i64) (.p (.i .i64) (.p (.i .i64) (.p (.i .i64) (.p (.i .i64) (.i .i64))))))))
def vBr (brs:List Br) (i:Nat):TM:=[(1, .ptr 0 0 0),(3, .ptr 2 0 0),(87, .v (.l Zfu) brs),(88,nt brs.length),(89,nt i)]
set_option maxHeartbeats 16000000 in
theorem ZtP (netc:List SV) (nodes ks:List Txt) (brs:List Br) (hr:rchL netc=[]) (hn:nodes.length≤1000) (hl:brs.length≤1000) (hs: ∀x∈brs,x.1.length≤9223372036854775806):
 LoopOK Tryd.prog Zaw 0 ⟨24,0,114⟩ (Zbt Tryd.f24 19) (vBr brs 0) (hB netc nodes ks)
 (fun e tm hp'=>(e= .exit 4∧ZaG nodes ks (brs.map brI)=0∧Ent 0 tm hp' [(1, .ptr 0 0 0),(3, .ptr 2 0 0)] (hB netc nodes (ks++brs.map (·.1))))∨(e= .ret∧ZaG nodes ks (brs.map brI)≠0∧Ent 0 tm hp' [(2, .v (.i .i64) (ZaG nodes ks (brs.map brI)))] [])):=by
 refine ZaH Zao rfl (vBr brs) (fun i=>hB netc nodes (ZaL brI ks brs i)) (fun i=>i≤brs.length∧ZaG nodes ks (brs.map brI)=ZaG nodes (ZaL brI ks brs i) ((brs.drop i).map brI)) (fun i=>brs.length-i) ?_ 0 ⟨Nat.zero_le _,by rw[ZaL,List.take_zero,List.map_nil,List.append_nil,List.drop_zero]⟩ ?_
 case refine_2=>
  have e0:ZaL brI ks brs 0=ks:=by rw[ZaL,List.take_zero,List.map_nil,List.append_nil]
  rw[e0];exact ZaW
 rintro i ⟨hi,he⟩
 cases h1:decide ((i:Int)<(brs.length:Int))with
 |false=>
  have e:i=brs.length:=by have:=of_decide_eq_false h1;omega
  have e0:ZaG nodes ks (brs.map brI)=0:=by rw[he,e,List.drop_length];rfl
  have em:ZaL brI ks brs i=ks++brs.map (·.1):=ZdT e
  refine Zae ?_
  refine Zab ?_
  refine Zaf ?_
  refine brF h1 ?_
  refine .inl ⟨rfl,e0, ?_⟩
  rw[em]
  exact Zai ⟨rfl,rfl,trivial⟩
 |true=>
  have hlt:i<brs.length:=by have:=of_decide_eq_true h1;omega
  have gx0:brs[i]? =some brs[i]:=List.getElem?_eq_getElem hlt
  have gx:brs[(i:Int).toNat]? =some brs[i]:=by rw[Int.toNat_natCast];exact gx0
  have hx:brs[i].1.length≤9223372036854775806:=hs _ (List.getElem_mem hlt)
  obtain⟨x,ex⟩: ∃x,brs[i]=x:=⟨_,rfl⟩
  rw[ex]at gx gx0 hx
  have hD:=Zf4 [.cell netc true, .set (ZaL brI ks brs i), .cell [.mp 1, .v (.l .s) nodes] true, .cell [.v .s x.1, .v .s x.2.1, .v .s x.2.2.1, .v (.i .i64) x.2.2.2.1, .v (.i .i64) x.2.2.2.2.1, .v (.i .i64) x.2.2.2.2.2.1, .v (.i .i64) x.2.2.2.2.2.2.1, .v (.i .i64) x.2.2.2.2.2.2.2.1, .v (.i .i64) x.2.2.2.2.2.2.2.2] true, .row .s [x.2.1,x.2.2.1] true] 1 4 nodes (ZaL brI ks brs i) x.1 [x.2.1,x.2.2.1] hx hn (Nat.le_of_ble_eq_true rfl) rfl rfl (by decide)
  refine Zae ?_
  refine Zab ?_
  refine Zaf ?_
  refine brT h1 ?_
  refine Zae ?_
  refine Zbb rfl (fun _=>rfl) (Int.natCast_nonneg i) gx rfl rfl ?_
  refine Zab ?_
  refine ZaR ?_
  refine Zac rfl (ZaB rfl rfl rfl rfl rfl rfl rfl rfl ?_)
  refine Zar rfl ?_
  refine Zaf ?_
  refine Zae ?_
  refine Zag rfl (fun _=>rfl) rfl rfl rfl ?_
  refine Zab ?_
  refine Zag rfl (fun _=>rfl) rfl rfl rfl ?_
  refine Zab ?_
  refine Zag rfl (fun _=>rfl) rfl rfl rfl ?_
  refine Zab ?_
  refine Zag rfl (fun _=>rfl) rfl rfl rfl ?_
  refine ZaR ?_
  refine Zac rfl ((hD.mono ?_))
  rintro _ hp' ⟨rfl,hX⟩
  refine Zaa rfl rfl ?_
  refine Zab ?_
  refine Zaf ?_
  have eB:Zbf nodes (ZaL brI ks brs i) (brI x)=Zb6 (Zbf nodes (ZaL brI ks brs i) (Zd6 x.1 [x.2.1,x.2.2.1])) (bif Zgk x then 4 else 0):=Zhm
  cases h2:decide (Zbf nodes (ZaL brI ks brs i) (Zd6 x.1 [x.2.1,x.2.2.1])=0)with
  |true=>
   have e2:=of_decide_eq_true h2
   have hc:(!decide (Zbf nodes (ZaL brI ks brs i) (Zd6 x.1 [x.2.1,x.2.2.1])=0))=false:=by rw[h2];rfl
   rw[Zb6,h2]at eB
   obtain⟨ex,rfl⟩:=hX e2
   have hBr:=Zr1 x
   refine Zae ?_
   iterate 2 refine Zab ?_
   refine Zaf ?_
   refine brF hc ?_
   cases h3:Zgk x with
   |false=>
    rw[h3]at eB hBr
    have eB:Zbf nodes (ZaL brI ks brs i) (brI x)=0:=eB
    refine Zae ?_
    refine Zag rfl (fun _=>rfl) rfl rfl rfl ?_
    refine Zac rfl ((hBr).mono ?_)
    rintro _ rfl
    refine Zaa rfl rfl ?_
    refine Zab ?_
    refine Zaf ?_
    refine Zae ?_
    iterate 2 refine Zab ?_
    refine Zaf ?_
    refine brF rfl ?_
    refine Zae ?_
    iterate 2 refine Zab ?_
    refine Zaf ?_
    refine⟨i+1,⟨hlt,he.trans (Zek gx0 eB)⟩,by show brs.length-(i+1)<brs.length-i;omega, ?_⟩
    have em: ∀A B:SM,[SM.cell netc true, .set (ZaL brI ks brs i), .cell [.mp 1, .v (.l .s) nodes] true,A,B].set 1 (.set (ZaL brI ks brs i++ [x.1]))++ex=hB netc nodes (ZaL brI ks brs (i+1))++(A::B::ex):=fun A B=>congrArg (fun z=>hB netc nodes z++(A::B::ex)) (Zca (f:=brI) gx0)
    rw[em]
    exact ZbQ (Nat.zero_le _) ⟨rfl,ZaS (by show 0<3;omega),rfl,ZaS (by show 2<3;omega),rfl,Za4,rfl,Za4,congrArg (fun x=>some (SV.v (.i .i64) x)) (Za7 (by omega)),Za4,trivial⟩ (Zp4 hr)
   |true=>
    rw[h3]at eB hBr
    have eB:Zbf nodes (ZaL brI ks brs i) (brI x)=4:=eB
    have e3:=he.trans (Zbh gx0 (by rw[eB];decide))
    refine Zae ?_
    refine Zag rfl (fun _=>rfl) rfl rfl rfl ?_
    refine Zac rfl ((hBr).mono ?_)
    rintro _ rfl
    refine Zaa rfl rfl ?_
    refine Zab ?_
    refine Zaf ?_
    refine Zae ?_
    iterate 2 refine Zab ?_
    refine Zaf ?_
    refine brT rfl ?_
    refine Zae ?_
    iterate 2 refine Zab ?_
    refine Zaf ?_
    refine ZaC ?_
    repeat (first|refine Zay ?_|refine Zax ?_|refine Zav ?_)
    exact .inr ⟨rfl,(fun h=>by rw[e3,eB]at h;cases h),Zbj ⟨congrArg (fun x=>some (SV.v (.i .i64) x)) (e3.trans eB).symm,rfl,trivial⟩⟩
  |false=>
   have e2:=of_decide_eq_false h2
   have hc:(!decide (Zbf nodes (ZaL brI ks brs i) (Zd6 x.1 [x.2.1,x.2.2.1])=0))=true:=by rw[h2];rfl
   rw[Zb6,h2]at eB
   have eB:Zbf nodes (ZaL brI ks brs i) (brI x)=Zbf nodes (ZaL brI ks brs i) (Zd6 x.1 [x.2.1,x.2.2.1]):=eB
   refine Zae ?_
   iterate 2 refine Zab ?_
   refine Zaf ?_
   refine brT hc ?_
   refine Zae ?_
   iterate 2 refine Zab ?_
   refine Zaf ?_
   refine ZaC ?_
   repeat (first|refine Zay ?_|refine Zax ?_|refine Zav ?_)
   have e3:=(he.trans (Zbh gx0 (by rw[eB];exact e2))).trans eB
   exact .inr ⟨rfl,fun h=>e2 (e3.symm.trans h),Zbj ⟨congrArg (fun x=>some (SV.v (.i .i64) x)) e3.symm,rfl,trivial⟩⟩
end Go.Proofs.YtgngdcpglnfkeaaDoor
