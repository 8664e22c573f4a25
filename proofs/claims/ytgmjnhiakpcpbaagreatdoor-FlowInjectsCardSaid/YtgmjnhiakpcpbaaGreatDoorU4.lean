/-
 netmodel.Check: the loops over the nodes, the switches and the branches.
-/
import Derived.Test.YtgmjnhiakpcpbaaGreatDoorU3
set_option linter.constructorNameAsVariable false
set_option linter.unusedSimpArgs false
set_option linter.unusedVariables false
namespace Go.Proofs.YtgmjnhiakpcpbaaGreatDoor
open Go.Am Go.Tx Ne
set_option maxRecDepth 100000
set_option maxHeartbeats 32000000 in
theorem Zre (hp:List SM) (mid:Nat) (nodes ks:List Txt) (name:Txt) (hs:name.length≤9223372036854775806) (hm:nth hp mid=some (.set ks)):
 OpenOK Tryz.prog ZaO 44 [.agg [.mp mid, .v (.l .s) nodes], .v .s name, .nils] hp (Zvo hp mid nodes ks name []):=by
 refine ZfA (fn:=Tryz.f44) (code:=Zca Tryz.f44) Zaw (by kernel_rfl) Tryz.func44 (by kernel_rfl) (Nat.le_of_ble_eq_true (by kernel_rfl)) ?_
 intro base
 have hN:=ZrU name hs
 have hLc:nth (hp++ [SM.cell [.mp mid, .v (.l .s) nodes] true]) hp.length=some (.cell [.mp mid, .v (.l .s) nodes] true):=ZeO
 have hm1:nth (hp++ [SM.cell [.mp mid, .v (.l .s) nodes] true]) mid=some (.set ks):=Zjy hm
 cases h1:Za8 name with
 |false=>
  rw[h1]at hN
  have eD:=ZmV (nodes:=nodes) (ks:=ks) (it:=ZdG name []) h1
  refine Zae ?_
  refine Zbs ?_
  refine Zab ?_
  refine Zad ?_
  refine Zae ?_
  refine Zab ?_
  refine Zaf rfl ((hN).mono ?_)
  rintro _ rfl
  refine Zac rfl rfl ?_
  iterate 2 refine Zab ?_
  refine Zad ?_
  refine brT rfl ?_
  refine Zae ?_
  refine Zab ?_
  refine Zad ?_
  exact⟨congrArg (fun x=>SV.v (.i .i64) x) eD.symm,fun h=>by rw[eD]at h;cases h⟩
 |true=>
  rw[h1]at hN
  cases h2:Zn8 name ks with
  |true=>
   have eD:=Zmf (nodes:=nodes) (it:=ZdG name []) h1 ((Zj2 name ks).symm.trans h2)
   refine Zae ?_
   refine Zbs ?_
   refine Zab ?_
   refine Zad ?_
   refine Zae ?_
   refine Zab ?_
   refine Zaf rfl ((hN).mono ?_)
   rintro _ rfl
   refine Zac rfl rfl ?_
   iterate 2 refine Zab ?_
   refine Zad ?_
   refine brF rfl ?_
   refine Zae ?_
   refine Zab ?_
   refine Zaf rfl (Zbp rfl rfl hLc rfl rfl ?_)
   refine Zac rfl rfl ?_
   refine Zab ?_
   refine Zaf rfl (ZuH rfl rfl rfl rfl hm1 ?_)
   refine Zac rfl rfl ?_
   refine Zab ?_
   refine Zad ?_
   refine brT h2 ?_
   refine Zae ?_
   refine Zab ?_
   refine Zad ?_
   exact⟨congrArg (fun x=>SV.v (.i .i64) x) eD.symm,fun h=>by rw[eD]at h;cases h⟩
  |false=>
   have h2':ZcA name ks=false:=(Zj2 name ks).symm.trans h2
   have hset:(hp++ [SM.cell [.mp mid, .v (.l .s) nodes] true]).set mid (.set (Zq4 name ks))=hp.set mid (.set (ks++ [name]))++ [.cell [.mp mid, .v (.l .s) nodes] true]:=by rw[Zm9 hm,Zji h2]
   have eD:Zba nodes ks (ZdG name [])=0:=Zkt (nodes:=nodes) (it:=ZdG name []) h1 h2' rfl
   refine Zae ?_
   refine Zbs ?_
   refine Zab ?_
   refine Zad ?_
   refine Zae ?_
   refine Zab ?_
   refine Zaf rfl ((hN).mono ?_)
   rintro _ rfl
   refine Zac rfl rfl ?_
   iterate 2 refine Zab ?_
   refine Zad ?_
   refine brF rfl ?_
   refine Zae ?_
   refine Zab ?_
   refine Zaf rfl (Zbp rfl rfl hLc rfl rfl ?_)
   refine Zac rfl rfl ?_
   refine Zab ?_
   refine Zaf rfl (ZuH rfl rfl rfl rfl hm1 ?_)
   refine Zac rfl rfl ?_
   refine Zab ?_
   refine Zad ?_
   refine brF h2 ?_
   refine Zae ?_
   refine Zab ?_
   refine Zaf rfl (Zbp rfl rfl hLc rfl rfl ?_)
   refine Zac rfl rfl ?_
   refine Zab ?_
   refine Zaf rfl (Zvt rfl rfl rfl rfl rfl hm1 ?_)
   refine ZaI rfl ?_
   refine Zad ?_
   refine Zae ?_
   iterate 3 refine Zab ?_
   refine Zad ?_
   refine Zto hset ?_
   refine ZaH Zaw rfl (fun(_:Unit)=> [(2, .nils),(21, .nils),(22,nt 0),(23,nt 0)]) (fun _=>hp.set mid (.set (ks++ [name]))++ [SM.cell [.mp mid, .v (.l .s) nodes] true]) (fun _=>True) (fun _=>0) ?_ () trivial (Zah ⟨rfl,rfl,rfl,rfl,trivial⟩)
   rintro _ _
   refine Zae ?_
   refine Zab ?_
   refine Zad ?_
   refine brF rfl ?_
   refine Zae ?_
   iterate 4 refine Zab ?_
   refine Zag rfl ?_
   refine Zag rfl ?_
   refine Zag rfl ?_
   refine Zag rfl ?_
   refine Zag rfl ?_
   refine Zag rfl ?_
   refine Zag rfl ?_
   refine Zap rfl ?_
   refine Zad ?_
   refine brF rfl ?_
   refine Zae ?_
   refine Zab ?_
   refine Zad ?_
   exact⟨congrArg (fun x=>SV.v (.i .i64) x) eD.symm,fun _=>⟨_,rfl⟩⟩
section
variable {α : Type} (f : α → Ne.Item) (ks0 : List Txt) (l : List α)
def ZaE (i:Nat):List Txt:=ks0++(l.take i).map fun x=>(f x).1
variable {f ks0 l}
theorem ZbQ {i:Nat} {x:α} (gx:l[i]? =some x):ZaE f ks0 l i++ [(f x).1]=ZaE f ks0 l (i+1):=by
 rw[ZaE,ZaE,List.append_assoc,List.take_add_one,gx];simp
theorem Zdp {i:Nat} (h:i=l.length):ZaE f ks0 l i=ks0++l.map fun x=>(f x).1:=by
 rw[ZaE,List.take_of_length_le (by omega)]
theorem ZdX {nodes:List Txt} {i:Nat} {x:α} (gx:l[i]? =some x) (e:Zba nodes (ZaE f ks0 l i) (f x)=0):
 ZaC nodes (ZaE f ks0 l i) ((l.drop i).map f)=ZaC nodes (ZaE f ks0 l (i+1)) ((l.drop (i+1)).map f):=by
 obtain⟨hi,rfl⟩:=List.getElem?_eq_some_iff.1 gx
 rw[List.drop_eq_getElem_cons hi,List.map_cons,ZaC,decide_eq_true e,←ZbQ gx]
theorem Zbc {nodes:List Txt} {i:Nat} {x:α} (gx:l[i]? =some x) (e:Zba nodes (ZaE f ks0 l i) (f x)≠0):
 ZaC nodes (ZaE f ks0 l i) ((l.drop i).map f)=Zba nodes (ZaE f ks0 l i) (f x):=by
 obtain⟨hi,rfl⟩:=List.getElem?_eq_some_iff.1 gx
 rw[List.drop_eq_getElem_cons hi,List.map_cons,ZaC,decide_eq_false e]
end
def hB (netc:List SV) (nodes ks:List Txt):List SM:=[.cell netc true, .set ks, .cell [.mp 1, .v (.l .s) nodes] true]
theorem ZpI {netc:List SV} {nodes ks:List Txt} (hr:rchL netc=[]): ∀m∈hB netc nodes ks,∀id∈ZgJ m,id<3:=by
 intro m hm id hid
 simp only[hB,List.mem_cons,List.not_mem_nil,or_false]at hm
 rcases hm with rfl|rfl|rfl
 ·rw[ZgJ,hr]at hid;exact absurd hid List.not_mem_nil
 ·exact absurd hid List.not_mem_nil
 ·have h:id=1:=by simpa[ZgJ,rchL,ZcZ]using hid
  omega
def vNo (nodes:List Txt) (i:Nat):TM:=[(1, .ptr 0 0 0),(3, .ptr 2 0 0),(53, .v (.l .s) nodes),(54,nt nodes.length),(55,nt i)]
set_option maxHeartbeats 16000000 in
theorem Ztm (netc:List SV) (nodes:List Txt) (hr:rchL netc=[]) (hn:nodes.length≤1000) (hs: ∀x∈nodes,x.length≤9223372036854775806):
 LoopOK Tryz.prog ZaO 0 ⟨21,0,114⟩ (Zbd Tryz.f21 5) (vNo nodes 0) (hB netc nodes [])
 (fun e tm hp'=>(e= .exit 0∧ZaC nodes [] (nodes.map noI)=0∧Ent 0 tm hp' [(1, .ptr 0 0 0),(3, .ptr 2 0 0)] (hB netc nodes nodes))∨(e= .ret∧ZaC nodes [] (nodes.map noI)≠0∧Ent 0 tm hp' [(2, .v (.i .i64) (ZaC nodes [] (nodes.map noI)))] [])):=by
 refine ZaH Zaw rfl (vNo nodes) (fun i=>hB netc nodes (ZaE noI [] nodes i)) (fun i=>i≤nodes.length∧ZaC nodes [] (nodes.map noI)=ZaC nodes (ZaE noI [] nodes i) ((nodes.drop i).map noI)) (fun i=>nodes.length-i) ?_ 0 ⟨Nat.zero_le _,rfl⟩ ZaW
 rintro i ⟨hi,he⟩
 cases h1:decide ((i:Int)<(nodes.length:Int))with
 |false=>
  have e:i=nodes.length:=by have:=of_decide_eq_false h1;omega
  have e0:ZaC nodes [] (nodes.map noI)=0:=by rw[he,e,List.drop_length];rfl
  have em:ZaE noI [] nodes i=nodes:=by rw[Zdp e];exact List.map_id' nodes
  refine Zae ?_
  refine Zab ?_
  refine Zad ?_
  refine brF h1 ?_
  refine .inl ⟨rfl,e0, ?_⟩
  rw[em]
  exact Zah ⟨rfl,rfl,trivial⟩
 |true=>
  have hlt:i<nodes.length:=by have:=of_decide_eq_true h1;omega
  have gx0:nodes[i]? =some nodes[i]:=List.getElem?_eq_getElem hlt
  have gx:nodes[(i:Int).toNat]? =some nodes[i]:=by rw[Int.toNat_natCast];exact gx0
  have hx:nodes[i].length≤9223372036854775806:=hs _ (List.getElem_mem hlt)
  obtain⟨x,ex⟩: ∃x,nodes[i]=x:=⟨_,rfl⟩
  rw[ex]at gx gx0 hx
  have hLc:nth (hB netc nodes (ZaE noI [] nodes i)) 2=some (.cell [.mp 1, .v (.l .s) nodes] true):=rfl
  have hD:=Zre (hB netc nodes (ZaE noI [] nodes i)) 1 nodes (ZaE noI [] nodes i) x hx rfl
  refine Zae ?_
  refine Zab ?_
  refine Zad ?_
  refine brT h1 ?_
  refine Zae ?_
  refine ZaY rfl (fun _=>rfl) (Int.natCast_nonneg i) gx rfl rfl ?_
  iterate 2 refine Zab ?_
  refine Zad ?_
  refine Zae ?_
  refine Zaf rfl (Zbp rfl rfl hLc rfl rfl ?_)
  refine Zac rfl rfl ?_
  refine Zab ?_
  refine Zaf rfl ((hD.mono ?_))
  rintro _ hp' ⟨rfl,hX⟩
  refine Zac rfl rfl ?_
  refine Zab ?_
  refine Zad ?_
  cases h2:decide (Zba nodes (ZaE noI [] nodes i) (ZdG x [])=0)with
  |true=>
   have e2:=of_decide_eq_true h2
   have hc:(!decide (Zba nodes (ZaE noI [] nodes i) (ZdG x [])=0))=false:=by rw[h2];rfl
   refine Zae ?_
   iterate 2 refine Zab ?_
   refine Zad ?_
   refine brF hc ?_
   refine Zae ?_
   iterate 2 refine Zab ?_
   refine Zad ?_
   refine⟨i+1,⟨hlt,he.trans (ZdX gx0 e2)⟩,by show nodes.length-(i+1)<nodes.length-i;omega, ?_⟩
   obtain⟨ex,rfl⟩:=hX e2
   have em:(hB netc nodes (ZaE noI [] nodes i)).set 1 (.set (ZaE noI [] nodes i++ [x]))=hB netc nodes (ZaE noI [] nodes (i+1)):=congrArg (hB netc nodes) (ZbQ (f:=noI) gx0)
   rw[em]
   exact Zd8 (Nat.zero_le _) ⟨rfl,ZaL (by show 0<3;omega),rfl,ZaL (by show 2<3;omega),rfl,Zas,rfl,Zas,congrArg (fun x=>some (SV.v (.i .i64) x)) (Za5 (by omega)),Zas,trivial⟩ (ZpI hr)
  |false=>
   have e2:=of_decide_eq_false h2
   have hc:(!decide (Zba nodes (ZaE noI [] nodes i) (ZdG x [])=0))=true:=by rw[h2];rfl
   refine Zae ?_
   iterate 2 refine Zab ?_
   refine Zad ?_
   refine brT hc ?_
   refine Zae ?_
   iterate 2 refine Zab ?_
   refine Zad ?_
   refine ZaA ?_
   repeat (first|refine Zau ?_|refine Zav ?_|refine Zar ?_)
   have e3:=he.trans (Zbc gx0 e2)
   exact .inr ⟨rfl,fun h=>e2 (e3.symm.trans h),ZaU ⟨congrArg (fun x=>some (SV.v (.i .i64) x)) e3.symm,rfl,trivial⟩⟩
abbrev Ztw:CT:= .p .s (.p .s (.p .s (.p .b .b)))
def vSw (sws:List Sw) (i:Nat):TM:=[(1, .ptr 0 0 0),(3, .ptr 2 0 0),(67, .v (.l Ztw) sws),(68,nt sws.length),(69,nt i)]
set_option maxHeartbeats 16000000 in
theorem Zsp (netc:List SV) (nodes ks:List Txt) (sws:List Sw) (hr:rchL netc=[]) (hn:nodes.length≤1000) (hl:sws.length≤1000) (hs: ∀x∈sws,x.1.length≤9223372036854775806):
 LoopOK Tryz.prog ZaO 0 ⟨21,0,114⟩ (Zbd Tryz.f21 12) (vSw sws 0) (hB netc nodes ks)
 (fun e tm hp'=>(e= .exit 2∧ZaC nodes ks (sws.map swI)=0∧Ent 0 tm hp' [(1, .ptr 0 0 0),(3, .ptr 2 0 0)] (hB netc nodes (ks++sws.map (·.1))))∨(e= .ret∧ZaC nodes ks (sws.map swI)≠0∧Ent 0 tm hp' [(2, .v (.i .i64) (ZaC nodes ks (sws.map swI)))] [])):=by
 refine ZaH Zaw rfl (vSw sws) (fun i=>hB netc nodes (ZaE swI ks sws i)) (fun i=>i≤sws.length∧ZaC nodes ks (sws.map swI)=ZaC nodes (ZaE swI ks sws i) ((sws.drop i).map swI)) (fun i=>sws.length-i) ?_ 0 ⟨Nat.zero_le _,by rw[ZaE,List.take_zero,List.map_nil,List.append_nil,List.drop_zero]⟩ ?_
 case refine_2=>
  have e0:ZaE swI ks sws 0=ks:=by rw[ZaE,List.take_zero,List.map_nil,List.append_nil]
  rw[e0];exact ZaW
 rintro i ⟨hi,he⟩
 cases h1:decide ((i:Int)<(sws.length:Int))with
 |false=>
  have e:i=sws.length:=by have:=of_decide_eq_false h1;omega
  have e0:ZaC nodes ks (sws.map swI)=0:=by rw[he,e,List.drop_length];rfl
  have em:ZaE swI ks sws i=ks++sws.map (·.1):=Zdp e
  refine Zae ?_
  refine Zab ?_
  refine Zad ?_
  refine brF h1 ?_
  refine .inl ⟨rfl,e0, ?_⟩
  rw[em]
  exact Zah ⟨rfl,rfl,trivial⟩
 |true=>
  have hlt:i<sws.length:=by have:=of_decide_eq_true h1;omega
  have gx0:sws[i]? =some sws[i]:=List.getElem?_eq_getElem hlt
  have gx:sws[(i:Int).toNat]? =some sws[i]:=by rw[Int.toNat_natCast];exact gx0
  have hx:sws[i].1.length≤9223372036854775806:=hs _ (List.getElem_mem hlt)
  obtain⟨x,ex⟩: ∃x,sws[i]=x:=⟨_,rfl⟩
  rw[ex]at gx gx0 hx
  have hD:=ZeU [.cell netc true, .set (ZaE swI ks sws i), .cell [.mp 1, .v (.l .s) nodes] true, .cell [.v .s x.1, .v .s x.2.1, .v .s x.2.2.1, .v .b x.2.2.2.1, .v .b x.2.2.2.2] true, .row .s [x.2.1,x.2.2.1] true] 1 4 nodes (ZaE swI ks sws i) x.1 [x.2.1,x.2.2.1] hx hn (Nat.le_of_ble_eq_true rfl) rfl rfl (by decide)
  refine Zae ?_
  refine Zab ?_
  refine Zad ?_
  refine brT h1 ?_
  refine Zae ?_
  refine ZaY rfl (fun _=>rfl) (Int.natCast_nonneg i) gx rfl rfl ?_
  refine Zab ?_
  refine Zbs ?_
  refine Zaf rfl (ZaM rfl rfl rfl rfl rfl rfl rfl rfl ?_)
  refine ZaI rfl ?_
  refine Zad ?_
  refine Zae ?_
  refine Zal rfl (fun _=>rfl) rfl rfl rfl ?_
  refine Zab ?_
  refine Zal rfl (fun _=>rfl) rfl rfl rfl ?_
  refine Zab ?_
  refine Zal rfl (fun _=>rfl) rfl rfl rfl ?_
  refine Zab ?_
  refine Zal rfl (fun _=>rfl) rfl rfl rfl ?_
  refine Zbs ?_
  refine Zaf rfl ((hD.mono ?_))
  rintro _ hp' ⟨rfl,hX⟩
  refine Zac rfl rfl ?_
  refine Zab ?_
  refine Zad ?_
  cases h2:decide (Zba nodes (ZaE swI ks sws i) (swI x)=0)with
  |true=>
   have e2:=of_decide_eq_true h2
   have hc:(!decide (Zba nodes (ZaE swI ks sws i) (ZdG x.1 [x.2.1,x.2.2.1])=0))=false:=by show(!decide (Zba nodes (ZaE swI ks sws i) (swI x)=0))=false;rw[h2];rfl
   refine Zae ?_
   iterate 2 refine Zab ?_
   refine Zad ?_
   refine brF hc ?_
   refine Zae ?_
   iterate 2 refine Zab ?_
   refine Zad ?_
   refine⟨i+1,⟨hlt,he.trans (ZdX gx0 e2)⟩,by show sws.length-(i+1)<sws.length-i;omega, ?_⟩
   obtain⟨ex,rfl⟩:=hX e2
   have em: ∀A B:SM,[SM.cell netc true, .set (ZaE swI ks sws i), .cell [.mp 1, .v (.l .s) nodes] true,A,B].set 1 (.set (ZaE swI ks sws i++ [x.1]))++ex=hB netc nodes (ZaE swI ks sws (i+1))++(A::B::ex):=fun A B=>congrArg (fun z=>hB netc nodes z++(A::B::ex)) (ZbQ (f:=swI) gx0)
   rw[em]
   exact Zd8 (Nat.zero_le _) ⟨rfl,ZaL (by show 0<3;omega),rfl,ZaL (by show 2<3;omega),rfl,Zas,rfl,Zas,congrArg (fun x=>some (SV.v (.i .i64) x)) (Za5 (by omega)),Zas,trivial⟩ (ZpI hr)
  |false=>
   have e2:=of_decide_eq_false h2
   have hc:(!decide (Zba nodes (ZaE swI ks sws i) (ZdG x.1 [x.2.1,x.2.2.1])=0))=true:=by show(!decide (Zba nodes (ZaE swI ks sws i) (swI x)=0))=true;rw[h2];rfl
   refine Zae ?_
   iterate 2 refine Zab ?_
   refine Zad ?_
   refine brT hc ?_
   refine Zae ?_
   iterate 2 refine Zab ?_
   refine Zad ?_
   refine ZaA ?_
   repeat (first|refine Zau ?_|refine Zav ?_|refine Zar ?_)
   have e3:=he.trans (Zbc gx0 e2)
   exact .inr ⟨rfl,fun h=>e2 (e3.symm.trans h),ZaU ⟨congrArg (fun x=>some (SV.v (.i .i64) x)) e3.symm,rfl,trivial⟩⟩
theorem ZgC {nodes ks:List Txt} {name:Txt} {ns:List Txt} {bad:Bool}:Zba nodes ks (name,ns,decide (ns.length=2),bad)=ZbO (Zba nodes ks (ZdG name ns)) (bif bad then 4 else 0):=by
 simp only[Zba]
 generalize Za8 name=b1
 generalize ZcA name ks=b2
 generalize(ns.all fun s=>ZcA s nodes)=b3
 generalize(decide (ns.length=2)&&(ns.getD 0 []==ns.getD 1 []))=b4
 cases b1<;>cases b2<;>cases b3<;>cases b4<;>rfl
abbrev ZtR:CT:= .p .s (.p .s (.p .s (.p (.i .i64) (.p (.i .i64) (.p (.i .i64) (.p (.i .i64) (.p (.i .i64) (.i .i64))))))))
def vBr (brs:List Br) (i:Nat):TM:=[(1, .ptr 0 0 0),(3, .ptr 2 0 0),(87, .v (.l ZtR) brs),(88,nt brs.length),(89,nt i)]
set_option maxHeartbeats 16000000 in
theorem Zsq (netc:List SV) (nodes ks:List Txt) (brs:List Br) (hr:rchL netc=[]) (hn:nodes.length≤1000) (hl:brs.length≤1000) (hs: ∀x∈brs,x.1.length≤9223372036854775806):
 LoopOK Tryz.prog ZaO 0 ⟨21,0,114⟩ (Zbd Tryz.f21 19) (vBr brs 0) (hB netc nodes ks)
 (fun e tm hp'=>(e= .exit 4∧ZaC nodes ks (brs.map brI)=0∧Ent 0 tm hp' [(1, .ptr 0 0 0),(3, .ptr 2 0 0)] (hB netc nodes (ks++brs.map (·.1))))∨(e= .ret∧ZaC nodes ks (brs.map brI)≠0∧Ent 0 tm hp' [(2, .v (.i .i64) (ZaC nodes ks (brs.map brI)))] [])):=by
 refine ZaH Zaw rfl (vBr brs) (fun i=>hB netc nodes (ZaE brI ks brs i)) (fun i=>i≤brs.length∧ZaC nodes ks (brs.map brI)=ZaC nodes (ZaE brI ks brs i) ((brs.drop i).map brI)) (fun i=>brs.length-i) ?_ 0 ⟨Nat.zero_le _,by rw[ZaE,List.take_zero,List.map_nil,List.append_nil,List.drop_zero]⟩ ?_
 case refine_2=>
  have e0:ZaE brI ks brs 0=ks:=by rw[ZaE,List.take_zero,List.map_nil,List.append_nil]
  rw[e0];exact ZaW
 rintro i ⟨hi,he⟩
 cases h1:decide ((i:Int)<(brs.length:Int))with
 |false=>
  have e:i=brs.length:=by have:=of_decide_eq_false h1;omega
  have e0:ZaC nodes ks (brs.map brI)=0:=by rw[he,e,List.drop_length];rfl
  have em:ZaE brI ks brs i=ks++brs.map (·.1):=Zdp e
  refine Zae ?_
  refine Zab ?_
  refine Zad ?_
  refine brF h1 ?_
  refine .inl ⟨rfl,e0, ?_⟩
  rw[em]
  exact Zah ⟨rfl,rfl,trivial⟩
 |true=>
  have hlt:i<brs.length:=by have:=of_decide_eq_true h1;omega
  have gx0:brs[i]? =some brs[i]:=List.getElem?_eq_getElem hlt
  have gx:brs[(i:Int).toNat]? =some brs[i]:=by rw[Int.toNat_natCast];exact gx0
  have hx:brs[i].1.length≤9223372036854775806:=hs _ (List.getElem_mem hlt)
  obtain⟨x,ex⟩: ∃x,brs[i]=x:=⟨_,rfl⟩
  rw[ex]at gx gx0 hx
  have hD:=ZeU [.cell netc true, .set (ZaE brI ks brs i), .cell [.mp 1, .v (.l .s) nodes] true, .cell [.v .s x.1, .v .s x.2.1, .v .s x.2.2.1, .v (.i .i64) x.2.2.2.1, .v (.i .i64) x.2.2.2.2.1, .v (.i .i64) x.2.2.2.2.2.1, .v (.i .i64) x.2.2.2.2.2.2.1, .v (.i .i64) x.2.2.2.2.2.2.2.1, .v (.i .i64) x.2.2.2.2.2.2.2.2] true, .row .s [x.2.1,x.2.2.1] true] 1 4 nodes (ZaE brI ks brs i) x.1 [x.2.1,x.2.2.1] hx hn (Nat.le_of_ble_eq_true rfl) rfl rfl (by decide)
  refine Zae ?_
  refine Zab ?_
  refine Zad ?_
  refine brT h1 ?_
  refine Zae ?_
  refine ZaY rfl (fun _=>rfl) (Int.natCast_nonneg i) gx rfl rfl ?_
  refine Zab ?_
  refine Zbs ?_
  refine Zaf rfl (ZaM rfl rfl rfl rfl rfl rfl rfl rfl ?_)
  refine ZaI rfl ?_
  refine Zad ?_
  refine Zae ?_
  refine Zal rfl (fun _=>rfl) rfl rfl rfl ?_
  refine Zab ?_
  refine Zal rfl (fun _=>rfl) rfl rfl rfl ?_
  refine Zab ?_
  refine Zal rfl (fun _=>rfl) rfl rfl rfl ?_
  refine Zab ?_
  refine Zal rfl (fun _=>rfl) rfl rfl rfl ?_
  refine Zbs ?_
  refine Zaf rfl ((hD.mono ?_))
  rintro _ hp' ⟨rfl,hX⟩
  refine Zac rfl rfl ?_
  refine Zab ?_
  refine Zad ?_
  have eB:Zba nodes (ZaE brI ks brs i) (brI x)=ZbO (Zba nodes (ZaE brI ks brs i) (ZdG x.1 [x.2.1,x.2.2.1])) (bif ZhU x then 4 else 0):=ZgC
  cases h2:decide (Zba nodes (ZaE brI ks brs i) (ZdG x.1 [x.2.1,x.2.2.1])=0)with
  |true=>
   have e2:=of_decide_eq_true h2
   have hc:(!decide (Zba nodes (ZaE brI ks brs i) (ZdG x.1 [x.2.1,x.2.2.1])=0))=false:=by rw[h2];rfl
   rw[ZbO,h2]at eB
   obtain⟨ex,rfl⟩:=hX e2
   have hBr:=ZqN x
   refine Zae ?_
   iterate 2 refine Zab ?_
   refine Zad ?_
   refine brF hc ?_
   cases h3:ZhU x with
   |false=>
    rw[h3]at eB hBr
    have eB:Zba nodes (ZaE brI ks brs i) (brI x)=0:=eB
    refine Zae ?_
    refine Zal rfl (fun _=>rfl) rfl rfl rfl ?_
    refine Zaf rfl ((hBr).mono ?_)
    rintro _ rfl
    refine Zac rfl rfl ?_
    refine Zab ?_
    refine Zad ?_
    refine Zae ?_
    iterate 2 refine Zab ?_
    refine Zad ?_
    refine brF rfl ?_
    refine Zae ?_
    iterate 2 refine Zab ?_
    refine Zad ?_
    refine⟨i+1,⟨hlt,he.trans (ZdX gx0 eB)⟩,by show brs.length-(i+1)<brs.length-i;omega, ?_⟩
    have em: ∀A B:SM,[SM.cell netc true, .set (ZaE brI ks brs i), .cell [.mp 1, .v (.l .s) nodes] true,A,B].set 1 (.set (ZaE brI ks brs i++ [x.1]))++ex=hB netc nodes (ZaE brI ks brs (i+1))++(A::B::ex):=fun A B=>congrArg (fun z=>hB netc nodes z++(A::B::ex)) (ZbQ (f:=brI) gx0)
    rw[em]
    exact Zd8 (Nat.zero_le _) ⟨rfl,ZaL (by show 0<3;omega),rfl,ZaL (by show 2<3;omega),rfl,Zas,rfl,Zas,congrArg (fun x=>some (SV.v (.i .i64) x)) (Za5 (by omega)),Zas,trivial⟩ (ZpI hr)
   |true=>
    rw[h3]at eB hBr
    have eB:Zba nodes (ZaE brI ks brs i) (brI x)=4:=eB
    have e3:=he.trans (Zbc gx0 (by rw[eB];decide))
    refine Zae ?_
    refine Zal rfl (fun _=>rfl) rfl rfl rfl ?_
    refine Zaf rfl ((hBr).mono ?_)
    rintro _ rfl
    refine Zac rfl rfl ?_
    refine Zab ?_
    refine Zad ?_
    refine Zae ?_
    iterate 2 refine Zab ?_
    refine Zad ?_
    refine brT rfl ?_
    refine Zae ?_
    iterate 2 refine Zab ?_
    refine Zad ?_
    refine ZaA ?_
    repeat (first|refine Zau ?_|refine Zav ?_|refine Zar ?_)
    exact .inr ⟨rfl,(fun h=>by rw[e3,eB]at h;cases h),ZaU ⟨congrArg (fun x=>some (SV.v (.i .i64) x)) (e3.trans eB).symm,rfl,trivial⟩⟩
  |false=>
   have e2:=of_decide_eq_false h2
   have hc:(!decide (Zba nodes (ZaE brI ks brs i) (ZdG x.1 [x.2.1,x.2.2.1])=0))=true:=by rw[h2];rfl
   rw[ZbO,h2]at eB
   have eB:Zba nodes (ZaE brI ks brs i) (brI x)=Zba nodes (ZaE brI ks brs i) (ZdG x.1 [x.2.1,x.2.2.1]):=eB
   refine Zae ?_
   iterate 2 refine Zab ?_
   refine Zad ?_
   refine brT hc ?_
   refine Zae ?_
   iterate 2 refine Zab ?_
   refine Zad ?_
   refine ZaA ?_
   repeat (first|refine Zau ?_|refine Zav ?_|refine Zar ?_)
   have e3:=(he.trans (Zbc gx0 (by rw[eB];exact e2))).trans eB
   exact .inr ⟨rfl,fun h=>e2 (e3.symm.trans h),ZaU ⟨congrArg (fun x=>some (SV.v (.i .i64) x)) e3.symm,rfl,trivial⟩⟩
end Go.Proofs.YtgmjnhiakpcpbaaGreatDoor
