/-
 The reference's NetError: the loops.
-/
import Derived.Test.YtgmjnhiakpcpbaaGreatDoorU8
set_option linter.constructorNameAsVariable false
set_option linter.unusedSimpArgs false
set_option linter.unusedVariables false
namespace Go.Proofs.YtgmjnhiakpcpbaaGreatDoor
open Go.Am Go.Tx Ne
set_option maxRecDepth 100000
theorem ZsT {nodes met:List Txt} {s:Txt}:Zba nodes met (noI s)=Zdj met s:=by
 simp only[Zba,noI,Zdj]
 cases Za8 s<;>cases ZcA s met<;>rfl
abbrev nmV:SV:= .func 24 [] [.ptr 1 0 0]
theorem Zsw: ∀id∈ZcZ nmV,id<3:=fun id hid=>by
 have h:id=1:=by simpa[ZcZ,rchL]using hid
 omega
def yNo (nodes:List Txt) (i:Nat):TM:=[(1, .ptr 0 0 0),(4,nmV),(49, .v (.l .s) nodes),(50,nt nodes.length),(51,nt i)]
set_option maxHeartbeats 16000000 in
theorem ZsJ (netc:List SV) (nodes:List Txt) (hr:rchL netc=[]) (hn:nodes.length≤100):
 LoopOK Tryz.prog ZaO 0 ⟨7,0,105⟩ (Zbd Tryz.f7 6) (yNo nodes 0) (hM netc [] [])
 (fun e tm hp'=>(e= .exit 0∧ZaC nodes [] (nodes.map noI)=0∧Ent 0 tm hp' [(1, .ptr 0 0 0),(4,nmV)] (hM netc nodes []))∨(e= .ret∧ZaC nodes [] (nodes.map noI)≠0∧Ent 0 tm hp' [(2, .v (.i .i64) (ZaC nodes [] (nodes.map noI)))] [])):=by
 refine ZaH Zaw rfl (yNo nodes) (fun i=>hM netc (ZaE noI [] nodes i) []) (fun i=>i≤nodes.length∧ZaC nodes [] (nodes.map noI)=ZaC nodes (ZaE noI [] nodes i) ((nodes.drop i).map noI)) (fun i=>nodes.length-i) ?_ 0 ⟨Nat.zero_le _,rfl⟩ ZaW
 rintro i ⟨hi,he⟩
 cases h1:decide ((i:Int)<(nodes.length:Int))with
 |false=>
  have e:i=nodes.length:=by have:=of_decide_eq_false h1;omega
  have e0:ZaC nodes [] (nodes.map noI)=0:=by rw[he,e,List.drop_length];rfl
  have em:ZaE noI [] nodes i=nodes:=by rw[Zdp e];exact List.map_id' nodes
  refine Zae ?_
  refine Zab ?_
  refine Zad ?_
  refine brF h1 ?_
  refine .inl ⟨rfl,e0, ?_⟩
  rw[em]
  exact Zah ⟨rfl,rfl,trivial⟩
 |true=>
  have hlt:i<nodes.length:=by have:=of_decide_eq_true h1;omega
  have gx0:nodes[i]? =some nodes[i]:=List.getElem?_eq_getElem hlt
  have gx:nodes[(i:Int).toNat]? =some nodes[i]:=by rw[Int.toNat_natCast];exact gx0
  obtain⟨x,ex⟩: ∃x,nodes[i]=x:=⟨_,rfl⟩
  rw[ex]at gx gx0
  have hC:=Zvm netc (ZaE noI [] nodes i) [] x (by rw[ZaE,List.length_append,List.length_map,List.length_take,List.length_nil];omega)
  have eB:Zba nodes (ZaE noI [] nodes i) (noI x)=Zdj (ZaE noI [] nodes i) x:=ZsT
  refine Zae ?_
  refine Zab ?_
  refine Zad ?_
  refine brT h1 ?_
  refine Zae ?_
  refine ZaY rfl (fun _=>rfl) (Int.natCast_nonneg i) gx rfl rfl ?_
  iterate 2 refine Zab ?_
  refine Zad ?_
  refine Zae ?_
  iterate 2 refine Zab ?_
  refine Zaf rfl ((hC.mono ?_))
  rintro _ hp' ⟨rfl,hX⟩
  refine Zac rfl rfl ?_
  refine Zab ?_
  refine Zad ?_
  cases h2:decide (Zdj (ZaE noI [] nodes i) x=0)with
  |true=>
   have e2:=of_decide_eq_true h2
   have hc:(!decide (Zdj (ZaE noI [] nodes i) x=0))=false:=by rw[h2];rfl
   obtain⟨k,hk,rfl⟩:=hX e2
   refine Zae ?_
   iterate 2 refine Zab ?_
   refine Zad ?_
   refine brF hc ?_
   refine Zae ?_
   iterate 2 refine Zab ?_
   refine Zad ?_
   refine⟨i+1,⟨hlt,he.trans (ZdX gx0 (eB.trans e2))⟩,by show nodes.length-(i+1)<nodes.length-i;omega, ?_⟩
   show Ent 0 _ _ (yNo nodes (i+1)) (hM netc (ZaE noI [] nodes (i+1)) [])
   rw[←ZbQ (f:=noI) gx0]
   exact Zls hr hk ⟨rfl,ZaL (by show 0<3;omega),rfl,Zsw,rfl,Zas,rfl,Zas,congrArg (fun x=>some (SV.v (.i .i64) x)) (Za5 (by omega)),Zas,trivial⟩
  |false=>
   have e2:=of_decide_eq_false h2
   have hc:(!decide (Zdj (ZaE noI [] nodes i) x=0))=true:=by rw[h2];rfl
   refine Zae ?_
   iterate 2 refine Zab ?_
   refine Zad ?_
   refine brT hc ?_
   refine Zae ?_
   iterate 2 refine Zab ?_
   refine Zad ?_
   refine ZaA ?_
   repeat (first|refine Zau ?_|refine Zav ?_|refine Zar ?_)
   have e3:=(he.trans (Zbc gx0 (by rw[eB];exact e2))).trans eB
   exact .inr ⟨rfl,fun h=>e2 (e3.symm.trans h),ZaU ⟨congrArg (fun x=>some (SV.v (.i .i64) x)) e3.symm,rfl,trivial⟩⟩
def yIn (l:List Ne.Item) (i:Nat) (ns:List Txt) (j:Nat):TM:=[(1, .ptr 0 0 0),(4,nmV),(9, .ptr 3 0 0),(63, .v (.l ZfB) l),(64,nt l.length),(65,nt i),(77, .v (.l .s) ns),(78,nt ns.length),(79,nt j)]
set_option maxHeartbeats 16000000 in
theorem Zr2 (n:Ne.Net) (l:List Ne.Item) (i:Nat) (ns:List Txt) (H:List SM) (hn:n.nodes.length≤100) (hns:ns.length≤1000) (hA:nth H 0=some (.cell (ZbD n) true)):
 LoopOK Tryz.prog ZaO 0 ⟨7,0,105⟩ (Zbd Tryz.f7 19) (yIn l i ns 0) H
 (fun e tm hp'=>(e= .exit 4∧(ns.all fun s=>ZcA s n.nodes)=true∧Ent 0 tm hp' [(1, .ptr 0 0 0),(4,nmV),(9, .ptr 3 0 0),(63, .v (.l ZfB) l),(64,nt l.length),(65,nt i)] H)∨(e= .ret∧(ns.all fun s=>ZcA s n.nodes)=false∧Ent 0 tm hp' [(2, .v (.i .i64) (6:Int))] [])):=by
 refine ZaH Zaw rfl (yIn l i ns) (fun _=>H) (fun j=>j≤ns.length∧(ns.all fun s=>ZcA s n.nodes)=((ns.drop j).all fun s=>ZcA s n.nodes)) (fun j=>ns.length-j) ?_ 0 ⟨Nat.zero_le _,rfl⟩ ZaW
 rintro j ⟨hj,he⟩
 cases h1:decide ((j:Int)<(ns.length:Int))with
 |false=>
  have e:j=ns.length:=by have:=of_decide_eq_false h1;omega
  refine Zae ?_
  refine Zab ?_
  refine Zad ?_
  refine brF h1 ?_
  exact .inl ⟨rfl,by rw[he,e,List.drop_length];rfl,Zah ⟨rfl,rfl,rfl,rfl,rfl,rfl,trivial⟩⟩
 |true=>
  have hlt:j<ns.length:=by have:=of_decide_eq_true h1;omega
  have gx:ns[(j:Int).toNat]? =some ns[j]:=by rw[Int.toNat_natCast];exact List.getElem?_eq_getElem hlt
  have ed:((ns.drop j).all fun s=>ZcA s n.nodes)=(ZcA ns[j] n.nodes&&(ns.drop (j+1)).all fun s=>ZcA s n.nodes):=by rw[List.drop_eq_getElem_cons hlt,List.all_cons]
  obtain⟨x,ex⟩: ∃x,ns[j]=x:=⟨_,rfl⟩
  rw[ex]at gx ed
  have hC:=Zui n.nodes x (by omega)
  refine Zae ?_
  refine Zab ?_
  refine Zad ?_
  refine brT h1 ?_
  refine Zae ?_
  refine ZaY rfl (fun _=>rfl) (Int.natCast_nonneg j) gx rfl rfl ?_
  iterate 2 refine Zab ?_
  refine Zad ?_
  cases h2:ZcA x n.nodes with
  |true=>
   rw[h2]at hC ed
   refine Zae ?_
   refine Zab ?_
   refine Zaf rfl (Zbp rfl rfl hA rfl rfl ?_)
   refine Zac rfl rfl ?_
   refine Zab ?_
   refine Zaf rfl ((hC).mono ?_)
   rintro _ rfl
   refine Zac rfl rfl ?_
   refine Zab ?_
   refine Zad ?_
   refine brF rfl ?_
   refine Zae ?_
   iterate 2 refine Zab ?_
   refine Zad ?_
   refine⟨j+1,⟨hlt,he.trans ed⟩,by show ns.length-(j+1)<ns.length-j;omega, ?_⟩
   exact Zah ⟨rfl,rfl,rfl,rfl,rfl,rfl,rfl,rfl,congrArg (fun x=>some (SV.v (.i .i64) x)) (Za5 (by omega)),trivial⟩
  |false=>
   rw[h2]at hC ed
   refine Zae ?_
   refine Zab ?_
   refine Zaf rfl (Zbp rfl rfl hA rfl rfl ?_)
   refine Zac rfl rfl ?_
   refine Zab ?_
   refine Zaf rfl ((hC).mono ?_)
   rintro _ rfl
   refine Zac rfl rfl ?_
   refine Zab ?_
   refine Zad ?_
   refine brT rfl ?_
   refine Zae ?_
   refine Zab ?_
   refine Zad ?_
   refine ZaA ?_
   repeat (first|refine Zau ?_|refine Zav ?_|refine Zar ?_)
   exact .inr ⟨rfl,he.trans ed,ZaU ⟨rfl,rfl,trivial⟩⟩
theorem Zsa {nodes met:List Txt} {s:Txt} {ns:List Txt} {ap bad:Bool}:Zba nodes met (s,ns,ap,bad)=ZbO (Zdj met s) (bif ns.all fun s=>ZcA s nodes then(bif ap&&(ns.getD 0 []==ns.getD 1 [])then 3 else bif bad then 4 else 0)else 6):=by
 simp only[Zba,Zdj]
 cases Za8 s<;>cases ZcA s met<;>rfl
def yIt (l:List Ne.Item) (i:Nat):TM:=[(1, .ptr 0 0 0),(4,nmV),(63, .v (.l ZfB) l),(64,nt l.length),(65,nt i)]
set_option maxHeartbeats 32000000 in
theorem Zth (n:Ne.Net) (ks:List Txt) (l:List Ne.Item) (hn:n.nodes.length≤100) (hk:ks.length≤100) (hl:l.length≤100) (hap: ∀x∈l,x.2.1.length≤1000∧(x.2.2.1=true→ ∃a b,x.2.1=[a,b])):
 LoopOK Tryz.prog ZaO 0 ⟨7,0,105⟩ (Zbd Tryz.f7 13) (yIt l 0) (hM (ZbD n) ks [])
 (fun e tm hp'=>(e= .exit 2∧ZaC n.nodes ks (l.map id)=0∧Ent 0 tm hp' [] [])∨(e= .ret∧ZaC n.nodes ks (l.map id)≠0∧Ent 0 tm hp' [(2, .v (.i .i64) (ZaC n.nodes ks (l.map id)))] [])):=by
 refine ZaH Zaw rfl (yIt l) (fun i=>hM (ZbD n) (ZaE id ks l i) []) (fun i=>i≤l.length∧ZaC n.nodes ks (l.map id)=ZaC n.nodes (ZaE id ks l i) ((l.drop i).map id)) (fun i=>l.length-i) ?_ 0 ⟨Nat.zero_le _,by rw[ZaE,List.take_zero,List.map_nil,List.append_nil,List.drop_zero]⟩ ?_
 case refine_2=>
  have e0:ZaE id ks l 0=ks:=by rw[ZaE,List.take_zero,List.map_nil,List.append_nil]
  rw[e0];exact ZaW
 rintro i ⟨hi,he⟩
 cases h1:decide ((i:Int)<(l.length:Int))with
 |false=>
  have e:i=l.length:=by have:=of_decide_eq_false h1;omega
  have e0:ZaC n.nodes ks (l.map id)=0:=by rw[he,e,List.drop_length];rfl
  refine Zae ?_
  refine Zab ?_
  refine Zad ?_
  refine brF h1 ?_
  exact .inl ⟨rfl,e0,ZaU trivial⟩
 |true=>
  have hlt:i<l.length:=by have:=of_decide_eq_true h1;omega
  have gx0:l[i]? =some l[i]:=List.getElem?_eq_getElem hlt
  have gx:l[(i:Int).toNat]? =some l[i]:=by rw[Int.toNat_natCast];exact gx0
  obtain⟨hns,hap⟩:=hap _ (List.getElem_mem hlt)
  obtain⟨⟨s,ns,ap,bad⟩,ex⟩: ∃x,l[i]=x:=⟨_,rfl⟩
  rw[ex]at gx gx0 hns hap
  obtain⟨met,em⟩: ∃met,ZaE id ks l i=met:=⟨_,rfl⟩
  have hml:met.length≤1000:=by rw[←em,ZaE,List.length_append,List.length_map,List.length_take];omega
  have enx:ZaE id ks l (i+1)=met++ [s]:=by rw[←em];exact(ZbQ (f:=id) gx0).symm
  have hbad:=fun h=>Zbc (f:=id) (ks0:=ks) (nodes:=n.nodes) gx0 h
  have hgood:=fun h=>ZdX (f:=id) (ks0:=ks) (nodes:=n.nodes) gx0 h
  rw[em]at he hbad hgood
  rw[em]
  have eB:Zba n.nodes met (id (s,ns,ap,bad))=_:=Zsa
  have hC:=Zvm (ZbD n) met [.cell [.v .s s, .v (.l .s) ns, .v .b ap, .v .b bad] true] s hml
  refine Zae ?_
  refine Zab ?_
  refine Zad ?_
  refine brT h1 ?_
  refine Zae ?_
  refine ZaY rfl (fun _=>rfl) (Int.natCast_nonneg i) gx rfl rfl ?_
  refine Zab ?_
  refine Zbs ?_
  refine Zaf rfl (ZaM rfl rfl rfl rfl rfl rfl rfl rfl ?_)
  refine ZaI rfl ?_
  refine Zad ?_
  refine Zae ?_
  iterate 2 refine Zab ?_
  refine Zal rfl (fun _=>rfl) rfl rfl rfl ?_
  refine Zaf rfl ((hC.mono ?_))
  rintro _ hp' ⟨rfl,hX⟩
  refine Zac rfl rfl ?_
  refine Zab ?_
  refine Zad ?_
  cases h2:decide (Zdj met s=0)with
  |false=>
   have e2:=of_decide_eq_false h2
   have hc:(!decide (Zdj met s=0))=true:=by rw[h2];rfl
   rw[ZbO,h2]at eB
   have eB:Zba n.nodes met (id (s,ns,ap,bad))=Zdj met s:=eB
   refine Zae ?_
   iterate 2 refine Zab ?_
   refine Zad ?_
   refine brT hc ?_
   refine Zae ?_
   iterate 2 refine Zab ?_
   refine Zad ?_
   refine ZaA ?_
   repeat (first|refine Zau ?_|refine Zav ?_|refine Zar ?_)
   have e3:=(he.trans (hbad (by rw[eB];exact e2))).trans eB
   exact .inr ⟨rfl,fun h=>e2 (e3.symm.trans h),ZaU ⟨congrArg (fun x=>some (SV.v (.i .i64) x)) e3.symm,rfl,trivial⟩⟩
  |true=>
   have e2:=of_decide_eq_true h2
   have hc:(!decide (Zdj met s=0))=false:=by rw[h2];rfl
   rw[ZbO,h2]at eB
   obtain⟨k,hk,rfl⟩:=hX e2
   have hin:=Zr2 n l i ns (hN (ZbD n) met [.cell [.v .s s, .v (.l .s) ns, .v .b ap, .v .b bad] true] s k) hn hns rfl
   refine Zae ?_
   iterate 2 refine Zab ?_
   refine Zad ?_
   refine brF hc ?_
   refine Zae ?_
   refine Zab ?_
   refine Zal rfl (fun _=>rfl) rfl rfl rfl ?_
   iterate 2 refine Zab ?_
   refine Zad ?_
   refine(hin.ent ?_).through ?_
   ·exact Zah ⟨rfl,rfl,rfl,rfl,rfl,rfl,rfl,rfl,rfl,trivial⟩
   rintro _ tm hp' (⟨rfl,ha,hE⟩|⟨rfl,ha,hE⟩)
   ·refine⟨_,_,hE, ?_⟩
    show wp _ _ _ _ _ _ _ _ _
    have eB:Zba n.nodes met (id (s,ns,ap,bad))=bif ap&&(ns.getD 0 []==ns.getD 1 [])then 3 else bif bad then 4 else 0:=by rw[eB,ha];rfl
    cases ap with
    |true=>
     obtain⟨a,b,e⟩:=hap rfl
     have e:ns=[a,b]:=e
     subst e
     have eB:Zba n.nodes met (id (s,[a,b],true,bad))=bif a==b then 3 else bif bad then 4 else 0:=eB
     cases h6:(a==b)with
     |true=>
      have eB:Zba n.nodes met (id (s,[a,b],true,bad))=3:=by rw[eB,h6];rfl
      refine Zae ?_
      refine Zab ?_
      refine Zal rfl (fun _=>rfl) rfl rfl rfl ?_
      refine Zab ?_
      refine Zaa rfl ?_
      refine Zai rfl rfl rfl rfl (fun _=>rfl) rfl rfl rfl ?_
      refine Zbn rfl rfl rfl rfl (fun _=>rfl) (Int.le_refl 0) rfl rfl rfl ?_
      refine Zaa rfl ?_
      refine Zaa rfl ?_
      refine Zai rfl rfl rfl rfl (fun _=>rfl) rfl rfl rfl ?_
      refine Zbn rfl rfl rfl rfl (fun _=>rfl) (show(0:Int)≤1 by decide) rfl rfl rfl ?_
      refine Zaa rfl ?_
      refine Zaa rfl ?_
      refine Zaq rfl ?_
      refine Zad ?_
      refine brT h6 ?_
      refine Zae ?_
      refine Zab ?_
      refine Zad ?_
      refine ZaA ?_
      repeat (first|refine Zau ?_|refine Zav ?_|refine Zar ?_)
      have e3:=(he.trans (hbad (by rw[eB];decide))).trans eB
      exact .inr ⟨rfl,(fun h=>by rw[e3]at h;cases h),ZaU ⟨congrArg (fun x=>some (SV.v (.i .i64) x)) e3.symm,rfl,trivial⟩⟩
     |false=>
      refine Zae ?_
      refine Zab ?_
      refine Zal rfl (fun _=>rfl) rfl rfl rfl ?_
      refine Zab ?_
      refine Zaa rfl ?_
      refine Zai rfl rfl rfl rfl (fun _=>rfl) rfl rfl rfl ?_
      refine Zbn rfl rfl rfl rfl (fun _=>rfl) (Int.le_refl 0) rfl rfl rfl ?_
      refine Zaa rfl ?_
      refine Zaa rfl ?_
      refine Zai rfl rfl rfl rfl (fun _=>rfl) rfl rfl rfl ?_
      refine Zbn rfl rfl rfl rfl (fun _=>rfl) (show(0:Int)≤1 by decide) rfl rfl rfl ?_
      refine Zaa rfl ?_
      refine Zaa rfl ?_
      refine Zaq rfl ?_
      refine Zad ?_
      refine brF h6 ?_
      cases bad with
      |true=>
       have eB:Zba n.nodes met (id (s,[a,b],true,true))=4:=by rw[eB,h6];rfl
       refine Zae ?_
       refine Zab ?_
       refine Zal rfl (fun _=>rfl) rfl rfl rfl ?_
       refine Zad ?_
       refine brT rfl ?_
       refine Zae ?_
       refine Zab ?_
       refine Zad ?_
       refine ZaA ?_
       repeat (first|refine Zau ?_|refine Zav ?_|refine Zar ?_)
       have e3:=(he.trans (hbad (by rw[eB];decide))).trans eB
       exact .inr ⟨rfl,(fun h=>by rw[e3]at h;cases h),ZaU ⟨congrArg (fun x=>some (SV.v (.i .i64) x)) e3.symm,rfl,trivial⟩⟩
      |false=>
       have eB:Zba n.nodes met (id (s,[a,b],true,false))=0:=by rw[eB,h6];rfl
       refine Zae ?_
       refine Zab ?_
       refine Zal rfl (fun _=>rfl) rfl rfl rfl ?_
       refine Zad ?_
       refine brF rfl ?_
       refine Zae ?_
       iterate 2 refine Zab ?_
       refine Zad ?_
       refine⟨i+1,⟨hlt,he.trans (hgood eB)⟩,by show l.length-(i+1)<l.length-i;omega, ?_⟩
       show Ent 0 _ _ (yIt l (i+1)) (hM (ZbD n) (ZaE id ks l (i+1)) [])
       rw[enx]
       exact Zls (Zb4 n) hk ⟨rfl,ZaL (by show 0<3;omega),rfl,Zsw,rfl,Zas,rfl,Zas,congrArg (fun x=>some (SV.v (.i .i64) x)) (Za5 (by omega)),Zas,trivial⟩
    |false=>
     refine Zae ?_
     refine Zab ?_
     refine Zal rfl (fun _=>rfl) rfl rfl rfl ?_
     refine Zab ?_
     refine Zag rfl ?_
     refine Zag rfl ?_
     refine Zag rfl ?_
     refine Zag rfl ?_
     refine Zag rfl ?_
     refine Zag rfl ?_
     refine Zag rfl ?_
     refine Zag rfl ?_
     refine Zag rfl ?_
     refine Zap rfl ?_
     refine Zad ?_
     refine brF rfl ?_
     cases bad with
     |true=>
      have eB:Zba n.nodes met (id (s,ns,false,true))=4:=eB
      refine Zae ?_
      refine Zab ?_
      refine Zal rfl (fun _=>rfl) rfl rfl rfl ?_
      refine Zad ?_
      refine brT rfl ?_
      refine Zae ?_
      refine Zab ?_
      refine Zad ?_
      refine ZaA ?_
      repeat (first|refine Zau ?_|refine Zav ?_|refine Zar ?_)
      have e3:=(he.trans (hbad (by rw[eB];decide))).trans eB
      exact .inr ⟨rfl,(fun h=>by rw[e3]at h;cases h),ZaU ⟨congrArg (fun x=>some (SV.v (.i .i64) x)) e3.symm,rfl,trivial⟩⟩
     |false=>
      have eB:Zba n.nodes met (id (s,ns,false,false))=0:=eB
      refine Zae ?_
      refine Zab ?_
      refine Zal rfl (fun _=>rfl) rfl rfl rfl ?_
      refine Zad ?_
      refine brF rfl ?_
      refine Zae ?_
      iterate 2 refine Zab ?_
      refine Zad ?_
      refine⟨i+1,⟨hlt,he.trans (hgood eB)⟩,by show l.length-(i+1)<l.length-i;omega, ?_⟩
      show Ent 0 _ _ (yIt l (i+1)) (hM (ZbD n) (ZaE id ks l (i+1)) [])
      rw[enx]
      exact Zls (Zb4 n) hk ⟨rfl,ZaL (by show 0<3;omega),rfl,Zsw,rfl,Zas,rfl,Zas,congrArg (fun x=>some (SV.v (.i .i64) x)) (Za5 (by omega)),Zas,trivial⟩
   ·refine⟨_,_,hE, ?_⟩
    have eB:Zba n.nodes met (id (s,ns,ap,bad))=6:=by rw[eB,ha];rfl
    have e3:=(he.trans (hbad (by rw[eB];decide))).trans eB
    repeat (first|refine Zau ?_|refine Zav ?_|refine Zar ?_)
    exact .inr ⟨rfl,(fun h=>by rw[e3]at h;cases h),Zah ⟨congrArg (fun x=>some (SV.v (.i .i64) x)) e3.symm,trivial⟩⟩
end Go.Proofs.YtgmjnhiakpcpbaaGreatDoor
