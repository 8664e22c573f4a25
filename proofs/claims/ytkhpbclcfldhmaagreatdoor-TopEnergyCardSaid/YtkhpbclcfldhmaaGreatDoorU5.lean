/-
 (netmodel.checker).ends: the loops over generators, loads and stores. (Printed by tools/genends.py.)
-/
import Derived.Test.YtkhpbclcfldhmaaGreatDoorU4
set_option linter.constructorNameAsVariable false
set_option linter.unusedSimpArgs false
set_option linter.unusedVariables false
namespace Go.Proofs.YtkhpbclcfldhmaaGreatDoor
open Go.Am Go.Tx Ne
set_option maxRecDepth 100000
def hE (netc:List SV) (nodes ks:List Txt):List SM:=[.cell netc true, .set ks, .cell [.mp 1, .v (.l .s) nodes] true, .cell [.mp 1, .v (.l .s) nodes] true, .cell netc true]
theorem ZsL {netc:List SV} {nodes ks:List Txt} (hr:rchL netc=[]): ∀m∈hE netc nodes ks,∀id∈Zlf m,id<5:=by
 intro m hm id hid
 simp only[hE,List.mem_cons,List.not_mem_nil,or_false]at hm
 rcases hm with rfl|rfl|rfl|rfl|rfl
 ·rw[Zlf,hr]at hid;exact absurd hid List.not_mem_nil
 ·exact absurd hid List.not_mem_nil
 ·have h:id=1:=by simpa[Zlf,rchL,ZdN]using hid
  omega
 ·have h:id=1:=by simpa[Zlf,rchL,ZdN]using hid
  omega
 ·rw[Zlf,hr]at hid;exact absurd hid List.not_mem_nil
def vGe (l:List Ge) (i:Nat):TM:=[(2, .ptr 3 0 0),(3, .ptr 4 0 0),(15, .v (.l (.p .s (.p .s (.p (.i .i64) (.p (.i .i64) (.i .i64)))))) l),(16,nt l.length),(17,nt i)]
set_option maxHeartbeats 16000000 in
theorem ZwE (netc:List SV) (nodes ks:List Txt) (l:List Ge) (hr:rchL netc=[]) (hn:nodes.length≤1000) (hl:l.length≤1000) (hs: ∀x∈l,x.1.length≤9223372036854775806) (base:Nat):
 LoopOK Tryz.prog Zao 3 ⟨31,base,105⟩ (Zbw Tryz.f31 2) (vGe l 0) (hE netc nodes ks)
 (fun e tm hp'=>(e= .exit 0∧ZaN nodes ks (l.map geI)=0∧Ent 3 tm hp' [(2, .ptr 3 0 0),(3, .ptr 4 0 0)] (hE netc nodes (ks++l.map (·.1))))∨(e= .ret∧ZaN nodes ks (l.map geI)≠0∧ ∃hp'',Ent 3 tm hp' [(4, .v (.i .i64) (ZaN nodes ks (l.map geI)))] hp'')):=by
 refine Zaz Zah rfl (vGe l) (fun i=>hE netc nodes (ZaO geI ks l i)) (fun i=>i≤l.length∧ZaN nodes ks (l.map geI)=ZaN nodes (ZaO geI ks l i) ((l.drop i).map geI)) (fun i=>l.length-i) ?_ 0 ⟨Nat.zero_le _,by rw[ZaO,List.take_zero,List.map_nil,List.append_nil,List.drop_zero]⟩ ?_
 case refine_2=>
  have e0:ZaO geI ks l 0=ks:=by rw[ZaO,List.take_zero,List.map_nil,List.append_nil]
  rw[e0];exact ZaU
 rintro i ⟨hi,he⟩
 cases h1:decide ((i:Int)<(l.length:Int))with
 |false=>
  have e:i=l.length:=by have:=of_decide_eq_false h1;omega
  have e0:ZaN nodes ks (l.map geI)=0:=by rw[he,e,List.drop_length];rfl
  have em:ZaO geI ks l i=ks++l.map (·.1):=ZeF e
  refine Zag ?_
  refine Zab ?_
  refine Zaf ?_
  refine brF h1 ?_
  refine .inl ⟨rfl,e0, ?_⟩
  rw[em]
  exact Zaq ⟨rfl,rfl,trivial⟩
 |true=>
  have hlt:i<l.length:=by have:=of_decide_eq_true h1;omega
  have gx0:l[i]? =some l[i]:=List.getElem?_eq_getElem hlt
  have gx:l[(i:Int).toNat]? =some l[i]:=by rw[Int.toNat_natCast];exact gx0
  have hx:l[i].1.length≤9223372036854775806:=hs _ (List.getElem_mem hlt)
  obtain⟨x,ex⟩: ∃x,l[i]=x:=⟨_,rfl⟩
  rw[ex]at gx gx0 hx
  have hD:=ZfW [.cell netc true, .set (ZaO geI ks l i), .cell [.mp 1, .v (.l .s) nodes] true, .cell [.mp 1, .v (.l .s) nodes] true, .cell netc true, .cell [.v .s x.1, .v .s x.2.1, .v (.i .i64) x.2.2.1, .v (.i .i64) x.2.2.2.1, .v (.i .i64) x.2.2.2.2] true, .row .s [x.2.1] true] 1 6 nodes (ZaO geI ks l i) x.1 [x.2.1] hx hn (Nat.le_of_ble_eq_true rfl) rfl rfl (by decide)
  have eB:Zbv nodes (ZaO geI ks l i) (geI x)=Zcy (Zbv nodes (ZaO geI ks l i) (Zeh x.1 [x.2.1])) (bif !(inR x.2.2.1 0 100000)|| !(inR x.2.2.2.1 x.2.2.1 100000)|| !(inR x.2.2.2.2 0 100000)then 4 else 0):=ZhM
  refine Zag ?_
  refine Zab ?_
  refine Zaf ?_
  refine brT h1 ?_
  refine Zag ?_
  refine Zb4 rfl (fun _=>rfl) (Int.natCast_nonneg i) gx rfl rfl ?_
  refine Zab ?_
  refine Zbq ?_
  refine Zad rfl (Zax rfl rfl rfl rfl rfl rfl rfl rfl ?_)
  refine Zau rfl ?_
  refine Zaf ?_
  refine Zag ?_
  refine Zak rfl (fun _=>rfl) rfl rfl rfl ?_
  refine Zab ?_
  refine Zak rfl (fun _=>rfl) rfl rfl rfl ?_
  refine Zab ?_
  refine Zak rfl (fun _=>rfl) rfl rfl rfl ?_
  refine Zbq ?_
  refine Zad rfl ((hD.mono ?_))
  rintro _ hp' ⟨rfl,hX⟩
  refine Zaa rfl rfl ?_
  refine Zab ?_
  refine Zaf ?_
  cases h2:decide (Zbv nodes (ZaO geI ks l i) (Zeh x.1 [x.2.1])=0)with
  |true=>
   have e2:=of_decide_eq_true h2
   have hc:(!decide (Zbv nodes (ZaO geI ks l i) (Zeh x.1 [x.2.1])=0))=false:=by rw[h2];rfl
   rw[Zcy,h2]at eB
   obtain⟨ex,rfl⟩:=hX e2
   have p1:=Zcd x.2.2.1
   have p2:=Zmt x.2.2.2.1 x.2.2.1 100000
   have p3:=Zcd x.2.2.2.2
   refine Zag ?_
   iterate 2 refine Zab ?_
   refine Zaf ?_
   refine brF hc ?_
   cases c1:inR x.2.2.1 0 100000 with
   |false=>
    rw[c1]at eB p1
    have eB:Zbv nodes (ZaO geI ks l i) (geI x)=4:=eB
    have e3:=he.trans (Zbs gx0 (by rw[eB];decide))
    refine Zag ?_
    refine Zab ?_
    refine Zak rfl (fun _=>rfl) rfl rfl rfl ?_
    refine Zad rfl ((p1).mono ?_)
    rintro _ rfl
    refine Zaa rfl rfl ?_
    iterate 2 refine Zab ?_
    refine Zap rfl ?_
    refine Zap rfl ?_
    refine Zap rfl ?_
    refine Zap rfl ?_
    refine Zap rfl ?_
    refine ZaK rfl ?_
    refine Zab ?_
    refine Zap rfl ?_
    refine Zap rfl ?_
    refine Zap rfl ?_
    refine Zap rfl ?_
    refine ZaK rfl ?_
    refine Zaf ?_
    refine brT rfl ?_
    refine Zag ?_
    refine Zab ?_
    refine Zaf ?_
    refine Za9 ?_
    repeat (first|refine ZaT ?_|refine ZaS ?_|refine ZaH ?_)
    exact .inr ⟨rfl,(fun h=>by rw[e3,eB]at h;cases h),_,Zaq ⟨congrArg (fun x=>some (SV.v (.i .i64) x)) (e3.trans eB).symm,trivial⟩⟩
   |true=>
    rw[c1]at eB p1
    cases c2:inR x.2.2.2.1 x.2.2.1 100000 with
    |false=>
     rw[c2]at eB p2
     have eB:Zbv nodes (ZaO geI ks l i) (geI x)=4:=eB
     have e3:=he.trans (Zbs gx0 (by rw[eB];decide))
     refine Zag ?_
     refine Zab ?_
     refine Zak rfl (fun _=>rfl) rfl rfl rfl ?_
     refine Zad rfl ((p1).mono ?_)
     rintro _ rfl
     refine Zaa rfl rfl ?_
     iterate 2 refine Zab ?_
     refine Zac rfl ?_
     refine Zam rfl rfl rfl rfl (fun _=>rfl) rfl rfl rfl ?_
     refine Zac rfl ?_
     refine Zam rfl rfl rfl rfl (fun _=>rfl) rfl rfl rfl ?_
     refine Zaw rfl rfl rfl rfl ((p2).mono ?_)
     rintro _ rfl
     refine Zaa rfl rfl ?_
     refine Zat rfl ?_
     refine Zab ?_
     refine Zap rfl ?_
     refine Zap rfl ?_
     refine Zap rfl ?_
     refine Zap rfl ?_
     refine ZaK rfl ?_
     refine Zaf ?_
     refine brT rfl ?_
     refine Zag ?_
     refine Zab ?_
     refine Zaf ?_
     refine Za9 ?_
     repeat (first|refine ZaT ?_|refine ZaS ?_|refine ZaH ?_)
     exact .inr ⟨rfl,(fun h=>by rw[e3,eB]at h;cases h),_,Zaq ⟨congrArg (fun x=>some (SV.v (.i .i64) x)) (e3.trans eB).symm,trivial⟩⟩
    |true=>
     rw[c2]at eB p2
     cases c3:inR x.2.2.2.2 0 100000 with
     |false=>
      rw[c3]at eB p3
      have eB:Zbv nodes (ZaO geI ks l i) (geI x)=4:=eB
      have e3:=he.trans (Zbs gx0 (by rw[eB];decide))
      refine Zag ?_
      refine Zab ?_
      refine Zak rfl (fun _=>rfl) rfl rfl rfl ?_
      refine Zad rfl ((p1).mono ?_)
      rintro _ rfl
      refine Zaa rfl rfl ?_
      iterate 2 refine Zab ?_
      refine Zac rfl ?_
      refine Zam rfl rfl rfl rfl (fun _=>rfl) rfl rfl rfl ?_
      refine Zac rfl ?_
      refine Zam rfl rfl rfl rfl (fun _=>rfl) rfl rfl rfl ?_
      refine Zaw rfl rfl rfl rfl ((p2).mono ?_)
      rintro _ rfl
      refine Zaa rfl rfl ?_
      refine Zat rfl ?_
      refine Zab ?_
      refine Zac rfl ?_
      refine Zam rfl rfl rfl rfl (fun _=>rfl) rfl rfl rfl ?_
      refine Zaw rfl rfl rfl rfl ((p3).mono ?_)
      rintro _ rfl
      refine Zaa rfl rfl ?_
      refine Zac rfl ?_
      refine Zat rfl ?_
      refine Zaf ?_
      refine brT rfl ?_
      refine Zag ?_
      refine Zab ?_
      refine Zaf ?_
      refine Za9 ?_
      repeat (first|refine ZaT ?_|refine ZaS ?_|refine ZaH ?_)
      exact .inr ⟨rfl,(fun h=>by rw[e3,eB]at h;cases h),_,Zaq ⟨congrArg (fun x=>some (SV.v (.i .i64) x)) (e3.trans eB).symm,trivial⟩⟩
     |true=>
      rw[c3]at eB p3
      have eB:Zbv nodes (ZaO geI ks l i) (geI x)=0:=eB
      refine Zag ?_
      refine Zab ?_
      refine Zak rfl (fun _=>rfl) rfl rfl rfl ?_
      refine Zad rfl ((p1).mono ?_)
      rintro _ rfl
      refine Zaa rfl rfl ?_
      iterate 2 refine Zab ?_
      refine Zac rfl ?_
      refine Zam rfl rfl rfl rfl (fun _=>rfl) rfl rfl rfl ?_
      refine Zac rfl ?_
      refine Zam rfl rfl rfl rfl (fun _=>rfl) rfl rfl rfl ?_
      refine Zaw rfl rfl rfl rfl ((p2).mono ?_)
      rintro _ rfl
      refine Zaa rfl rfl ?_
      refine Zat rfl ?_
      refine Zab ?_
      refine Zac rfl ?_
      refine Zam rfl rfl rfl rfl (fun _=>rfl) rfl rfl rfl ?_
      refine Zaw rfl rfl rfl rfl ((p3).mono ?_)
      rintro _ rfl
      refine Zaa rfl rfl ?_
      refine Zac rfl ?_
      refine Zat rfl ?_
      refine Zaf ?_
      refine brF rfl ?_
      refine Zag ?_
      iterate 2 refine Zab ?_
      refine Zaf ?_
      refine⟨i+1,⟨hlt,he.trans (ZgO gx0 eB)⟩,by show l.length-(i+1)<l.length-i;omega, ?_⟩
      have em: ∀A B:SM,[SM.cell netc true, .set (ZaO geI ks l i), .cell [.mp 1, .v (.l .s) nodes] true, .cell [.mp 1, .v (.l .s) nodes] true, .cell netc true,A,B].set 1 (.set (ZaO geI ks l i++ [x.1]))++ex=hE netc nodes (ZaO geI ks l (i+1))++(A::B::ex):=fun A B=>congrArg (fun z=>hE netc nodes z++(A::B::ex)) (ZcT (f:=geI) gx0)
      rw[em]
      exact ZeQ (hp0:=hE netc nodes (ZaO geI ks l (i+1))) (Nat.le_of_ble_eq_true rfl) ⟨rfl,ZaZ (by show 3<5;omega),rfl,ZaZ (by show 4<5;omega),rfl,ZaA,rfl,ZaA,congrArg (fun x=>some (SV.v (.i .i64) x)) (Zc6 (by omega)),ZaA,trivial⟩ (ZsL hr)
  |false=>
   have e2:=of_decide_eq_false h2
   have hc:(!decide (Zbv nodes (ZaO geI ks l i) (Zeh x.1 [x.2.1])=0))=true:=by rw[h2];rfl
   rw[Zcy,h2]at eB
   have eB:Zbv nodes (ZaO geI ks l i) (geI x)=Zbv nodes (ZaO geI ks l i) (Zeh x.1 [x.2.1]):=eB
   refine Zag ?_
   iterate 2 refine Zab ?_
   refine Zaf ?_
   refine brT hc ?_
   refine Zag ?_
   iterate 2 refine Zab ?_
   refine Zaf ?_
   refine Za9 ?_
   repeat (first|refine ZaT ?_|refine ZaS ?_|refine ZaH ?_)
   have e3:=(he.trans (Zbs gx0 (by rw[eB];exact e2))).trans eB
   exact .inr ⟨rfl,fun h=>e2 (e3.symm.trans h),_,Zaq ⟨congrArg (fun x=>some (SV.v (.i .i64) x)) e3.symm,trivial⟩⟩
def vLo (l:List Lo) (i:Nat):TM:=[(2, .ptr 3 0 0),(3, .ptr 4 0 0),(50, .v (.l (.p .s (.p .s (.i .i64)))) l),(51,nt l.length),(52,nt i)]
set_option maxHeartbeats 16000000 in
theorem Zwi (netc:List SV) (nodes ks:List Txt) (l:List Lo) (hr:rchL netc=[]) (hn:nodes.length≤1000) (hl:l.length≤1000) (hs: ∀x∈l,x.1.length≤9223372036854775806) (base:Nat):
 LoopOK Tryz.prog Zao 3 ⟨31,base,105⟩ (Zbw Tryz.f31 11) (vLo l 0) (hE netc nodes ks)
 (fun e tm hp'=>(e= .exit 2∧ZaN nodes ks (l.map loI)=0∧Ent 3 tm hp' [(2, .ptr 3 0 0),(3, .ptr 4 0 0)] (hE netc nodes (ks++l.map (·.1))))∨(e= .ret∧ZaN nodes ks (l.map loI)≠0∧ ∃hp'',Ent 3 tm hp' [(4, .v (.i .i64) (ZaN nodes ks (l.map loI)))] hp'')):=by
 refine Zaz Zah rfl (vLo l) (fun i=>hE netc nodes (ZaO loI ks l i)) (fun i=>i≤l.length∧ZaN nodes ks (l.map loI)=ZaN nodes (ZaO loI ks l i) ((l.drop i).map loI)) (fun i=>l.length-i) ?_ 0 ⟨Nat.zero_le _,by rw[ZaO,List.take_zero,List.map_nil,List.append_nil,List.drop_zero]⟩ ?_
 case refine_2=>
  have e0:ZaO loI ks l 0=ks:=by rw[ZaO,List.take_zero,List.map_nil,List.append_nil]
  rw[e0];exact ZaU
 rintro i ⟨hi,he⟩
 cases h1:decide ((i:Int)<(l.length:Int))with
 |false=>
  have e:i=l.length:=by have:=of_decide_eq_false h1;omega
  have e0:ZaN nodes ks (l.map loI)=0:=by rw[he,e,List.drop_length];rfl
  have em:ZaO loI ks l i=ks++l.map (·.1):=ZeF e
  refine Zag ?_
  refine Zab ?_
  refine Zaf ?_
  refine brF h1 ?_
  refine .inl ⟨rfl,e0, ?_⟩
  rw[em]
  exact Zaq ⟨rfl,rfl,trivial⟩
 |true=>
  have hlt:i<l.length:=by have:=of_decide_eq_true h1;omega
  have gx0:l[i]? =some l[i]:=List.getElem?_eq_getElem hlt
  have gx:l[(i:Int).toNat]? =some l[i]:=by rw[Int.toNat_natCast];exact gx0
  have hx:l[i].1.length≤9223372036854775806:=hs _ (List.getElem_mem hlt)
  obtain⟨x,ex⟩: ∃x,l[i]=x:=⟨_,rfl⟩
  rw[ex]at gx gx0 hx
  have hD:=ZfW [.cell netc true, .set (ZaO loI ks l i), .cell [.mp 1, .v (.l .s) nodes] true, .cell [.mp 1, .v (.l .s) nodes] true, .cell netc true, .cell [.v .s x.1, .v .s x.2.1, .v (.i .i64) x.2.2] true, .row .s [x.2.1] true] 1 6 nodes (ZaO loI ks l i) x.1 [x.2.1] hx hn (Nat.le_of_ble_eq_true rfl) rfl rfl (by decide)
  have eB:Zbv nodes (ZaO loI ks l i) (loI x)=Zcy (Zbv nodes (ZaO loI ks l i) (Zeh x.1 [x.2.1])) (bif !(inR x.2.2 0 100000)then 4 else 0):=ZhM
  refine Zag ?_
  refine Zab ?_
  refine Zaf ?_
  refine brT h1 ?_
  refine Zag ?_
  refine Zb4 rfl (fun _=>rfl) (Int.natCast_nonneg i) gx rfl rfl ?_
  refine Zab ?_
  refine Zbq ?_
  refine Zad rfl (Zax rfl rfl rfl rfl rfl rfl rfl rfl ?_)
  refine Zau rfl ?_
  refine Zaf ?_
  refine Zag ?_
  refine Zak rfl (fun _=>rfl) rfl rfl rfl ?_
  refine Zab ?_
  refine Zak rfl (fun _=>rfl) rfl rfl rfl ?_
  refine Zab ?_
  refine Zak rfl (fun _=>rfl) rfl rfl rfl ?_
  refine Zbq ?_
  refine Zad rfl ((hD.mono ?_))
  rintro _ hp' ⟨rfl,hX⟩
  refine Zaa rfl rfl ?_
  refine Zab ?_
  refine Zaf ?_
  cases h2:decide (Zbv nodes (ZaO loI ks l i) (Zeh x.1 [x.2.1])=0)with
  |true=>
   have e2:=of_decide_eq_true h2
   have hc:(!decide (Zbv nodes (ZaO loI ks l i) (Zeh x.1 [x.2.1])=0))=false:=by rw[h2];rfl
   rw[Zcy,h2]at eB
   obtain⟨ex,rfl⟩:=hX e2
   have p1:=Zcd x.2.2
   refine Zag ?_
   iterate 2 refine Zab ?_
   refine Zaf ?_
   refine brF hc ?_
   cases c1:inR x.2.2 0 100000 with
   |false=>
    rw[c1]at eB p1
    have eB:Zbv nodes (ZaO loI ks l i) (loI x)=4:=eB
    have e3:=he.trans (Zbs gx0 (by rw[eB];decide))
    refine Zag ?_
    refine Zab ?_
    refine Zak rfl (fun _=>rfl) rfl rfl rfl ?_
    refine Zad rfl ((p1).mono ?_)
    rintro _ rfl
    refine Zaa rfl rfl ?_
    refine Zab ?_
    refine Zaf ?_
    refine brT rfl ?_
    refine Zag ?_
    refine Zab ?_
    refine Zaf ?_
    refine Za9 ?_
    repeat (first|refine ZaT ?_|refine ZaS ?_|refine ZaH ?_)
    exact .inr ⟨rfl,(fun h=>by rw[e3,eB]at h;cases h),_,Zaq ⟨congrArg (fun x=>some (SV.v (.i .i64) x)) (e3.trans eB).symm,trivial⟩⟩
   |true=>
    rw[c1]at eB p1
    have eB:Zbv nodes (ZaO loI ks l i) (loI x)=0:=eB
    refine Zag ?_
    refine Zab ?_
    refine Zak rfl (fun _=>rfl) rfl rfl rfl ?_
    refine Zad rfl ((p1).mono ?_)
    rintro _ rfl
    refine Zaa rfl rfl ?_
    refine Zab ?_
    refine Zaf ?_
    refine brF rfl ?_
    refine Zag ?_
    iterate 2 refine Zab ?_
    refine Zaf ?_
    refine⟨i+1,⟨hlt,he.trans (ZgO gx0 eB)⟩,by show l.length-(i+1)<l.length-i;omega, ?_⟩
    have em: ∀A B:SM,[SM.cell netc true, .set (ZaO loI ks l i), .cell [.mp 1, .v (.l .s) nodes] true, .cell [.mp 1, .v (.l .s) nodes] true, .cell netc true,A,B].set 1 (.set (ZaO loI ks l i++ [x.1]))++ex=hE netc nodes (ZaO loI ks l (i+1))++(A::B::ex):=fun A B=>congrArg (fun z=>hE netc nodes z++(A::B::ex)) (ZcT (f:=loI) gx0)
    rw[em]
    exact ZeQ (hp0:=hE netc nodes (ZaO loI ks l (i+1))) (Nat.le_of_ble_eq_true rfl) ⟨rfl,ZaZ (by show 3<5;omega),rfl,ZaZ (by show 4<5;omega),rfl,ZaA,rfl,ZaA,congrArg (fun x=>some (SV.v (.i .i64) x)) (Zc6 (by omega)),ZaA,trivial⟩ (ZsL hr)
  |false=>
   have e2:=of_decide_eq_false h2
   have hc:(!decide (Zbv nodes (ZaO loI ks l i) (Zeh x.1 [x.2.1])=0))=true:=by rw[h2];rfl
   rw[Zcy,h2]at eB
   have eB:Zbv nodes (ZaO loI ks l i) (loI x)=Zbv nodes (ZaO loI ks l i) (Zeh x.1 [x.2.1]):=eB
   refine Zag ?_
   iterate 2 refine Zab ?_
   refine Zaf ?_
   refine brT hc ?_
   refine Zag ?_
   iterate 2 refine Zab ?_
   refine Zaf ?_
   refine Za9 ?_
   repeat (first|refine ZaT ?_|refine ZaS ?_|refine ZaH ?_)
   have e3:=(he.trans (Zbs gx0 (by rw[eB];exact e2))).trans eB
   exact .inr ⟨rfl,fun h=>e2 (e3.symm.trans h),_,Zaq ⟨congrArg (fun x=>some (SV.v (.i .i64) x)) e3.symm,trivial⟩⟩
def vSt (l:List Sto) (i:Nat):TM:=[(2, .ptr 3 0 0),(3, .ptr 4 0 0),(72, .v (.l (.p .s (.p .s (.p (.i .i64) (.p (.i .i64) (.i .i64)))))) l),(73,nt l.length),(74,nt i)]
set_option maxHeartbeats 16000000 in
theorem Zwx (netc:List SV) (nodes ks:List Txt) (l:List Sto) (hr:rchL netc=[]) (hn:nodes.length≤1000) (hl:l.length≤1000) (hs: ∀x∈l,x.1.length≤9223372036854775806) (base:Nat):
 LoopOK Tryz.prog Zao 3 ⟨31,base,105⟩ (Zbw Tryz.f31 20) (vSt l 0) (hE netc nodes ks)
 (fun e tm hp'=>(e= .exit 4∧ZaN nodes ks (l.map stI)=0∧Ent 3 tm hp' [(2, .ptr 3 0 0),(3, .ptr 4 0 0)] (hE netc nodes (ks++l.map (·.1))))∨(e= .ret∧ZaN nodes ks (l.map stI)≠0∧ ∃hp'',Ent 3 tm hp' [(4, .v (.i .i64) (ZaN nodes ks (l.map stI)))] hp'')):=by
 refine Zaz Zah rfl (vSt l) (fun i=>hE netc nodes (ZaO stI ks l i)) (fun i=>i≤l.length∧ZaN nodes ks (l.map stI)=ZaN nodes (ZaO stI ks l i) ((l.drop i).map stI)) (fun i=>l.length-i) ?_ 0 ⟨Nat.zero_le _,by rw[ZaO,List.take_zero,List.map_nil,List.append_nil,List.drop_zero]⟩ ?_
 case refine_2=>
  have e0:ZaO stI ks l 0=ks:=by rw[ZaO,List.take_zero,List.map_nil,List.append_nil]
  rw[e0];exact ZaU
 rintro i ⟨hi,he⟩
 cases h1:decide ((i:Int)<(l.length:Int))with
 |false=>
  have e:i=l.length:=by have:=of_decide_eq_false h1;omega
  have e0:ZaN nodes ks (l.map stI)=0:=by rw[he,e,List.drop_length];rfl
  have em:ZaO stI ks l i=ks++l.map (·.1):=ZeF e
  refine Zag ?_
  refine Zab ?_
  refine Zaf ?_
  refine brF h1 ?_
  refine .inl ⟨rfl,e0, ?_⟩
  rw[em]
  exact Zaq ⟨rfl,rfl,trivial⟩
 |true=>
  have hlt:i<l.length:=by have:=of_decide_eq_true h1;omega
  have gx0:l[i]? =some l[i]:=List.getElem?_eq_getElem hlt
  have gx:l[(i:Int).toNat]? =some l[i]:=by rw[Int.toNat_natCast];exact gx0
  have hx:l[i].1.length≤9223372036854775806:=hs _ (List.getElem_mem hlt)
  obtain⟨x,ex⟩: ∃x,l[i]=x:=⟨_,rfl⟩
  rw[ex]at gx gx0 hx
  have hD:=ZfW [.cell netc true, .set (ZaO stI ks l i), .cell [.mp 1, .v (.l .s) nodes] true, .cell [.mp 1, .v (.l .s) nodes] true, .cell netc true, .cell [.v .s x.1, .v .s x.2.1, .v (.i .i64) x.2.2.1, .v (.i .i64) x.2.2.2.1, .v (.i .i64) x.2.2.2.2] true, .row .s [x.2.1] true] 1 6 nodes (ZaO stI ks l i) x.1 [x.2.1] hx hn (Nat.le_of_ble_eq_true rfl) rfl rfl (by decide)
  have eB:Zbv nodes (ZaO stI ks l i) (stI x)=Zcy (Zbv nodes (ZaO stI ks l i) (Zeh x.1 [x.2.1])) (bif !(inR x.2.2.1 0 100000)|| !(inR x.2.2.2.1 0 100000)|| !(inR x.2.2.2.2 0 100000)then 4 else 0):=ZhM
  refine Zag ?_
  refine Zab ?_
  refine Zaf ?_
  refine brT h1 ?_
  refine Zag ?_
  refine Zb4 rfl (fun _=>rfl) (Int.natCast_nonneg i) gx rfl rfl ?_
  refine Zab ?_
  refine Zbq ?_
  refine Zad rfl (Zax rfl rfl rfl rfl rfl rfl rfl rfl ?_)
  refine Zau rfl ?_
  refine Zaf ?_
  refine Zag ?_
  refine Zak rfl (fun _=>rfl) rfl rfl rfl ?_
  refine Zab ?_
  refine Zak rfl (fun _=>rfl) rfl rfl rfl ?_
  refine Zab ?_
  refine Zak rfl (fun _=>rfl) rfl rfl rfl ?_
  refine Zbq ?_
  refine Zad rfl ((hD.mono ?_))
  rintro _ hp' ⟨rfl,hX⟩
  refine Zaa rfl rfl ?_
  refine Zab ?_
  refine Zaf ?_
  cases h2:decide (Zbv nodes (ZaO stI ks l i) (Zeh x.1 [x.2.1])=0)with
  |true=>
   have e2:=of_decide_eq_true h2
   have hc:(!decide (Zbv nodes (ZaO stI ks l i) (Zeh x.1 [x.2.1])=0))=false:=by rw[h2];rfl
   rw[Zcy,h2]at eB
   obtain⟨ex,rfl⟩:=hX e2
   have p1:=Zcd x.2.2.1
   have p2:=Zcd x.2.2.2.1
   have p3:=Zcd x.2.2.2.2
   refine Zag ?_
   iterate 2 refine Zab ?_
   refine Zaf ?_
   refine brF hc ?_
   cases c1:inR x.2.2.1 0 100000 with
   |false=>
    rw[c1]at eB p1
    have eB:Zbv nodes (ZaO stI ks l i) (stI x)=4:=eB
    have e3:=he.trans (Zbs gx0 (by rw[eB];decide))
    refine Zag ?_
    refine Zab ?_
    refine Zak rfl (fun _=>rfl) rfl rfl rfl ?_
    refine Zad rfl ((p1).mono ?_)
    rintro _ rfl
    refine Zaa rfl rfl ?_
    iterate 2 refine Zab ?_
    refine Zap rfl ?_
    refine Zap rfl ?_
    refine Zap rfl ?_
    refine Zap rfl ?_
    refine ZaK rfl ?_
    refine Zab ?_
    refine Zap rfl ?_
    refine Zap rfl ?_
    refine Zap rfl ?_
    refine Zap rfl ?_
    refine ZaK rfl ?_
    refine Zaf ?_
    refine brT rfl ?_
    refine Zag ?_
    refine Zab ?_
    refine Zaf ?_
    refine Za9 ?_
    repeat (first|refine ZaT ?_|refine ZaS ?_|refine ZaH ?_)
    exact .inr ⟨rfl,(fun h=>by rw[e3,eB]at h;cases h),_,Zaq ⟨congrArg (fun x=>some (SV.v (.i .i64) x)) (e3.trans eB).symm,trivial⟩⟩
   |true=>
    rw[c1]at eB p1
    cases c2:inR x.2.2.2.1 0 100000 with
    |false=>
     rw[c2]at eB p2
     have eB:Zbv nodes (ZaO stI ks l i) (stI x)=4:=eB
     have e3:=he.trans (Zbs gx0 (by rw[eB];decide))
     refine Zag ?_
     refine Zab ?_
     refine Zak rfl (fun _=>rfl) rfl rfl rfl ?_
     refine Zad rfl ((p1).mono ?_)
     rintro _ rfl
     refine Zaa rfl rfl ?_
     iterate 2 refine Zab ?_
     refine Zac rfl ?_
     refine Zam rfl rfl rfl rfl (fun _=>rfl) rfl rfl rfl ?_
     refine Zaw rfl rfl rfl rfl ((p2).mono ?_)
     rintro _ rfl
     refine Zaa rfl rfl ?_
     refine Zac rfl ?_
     refine Zat rfl ?_
     refine Zab ?_
     refine Zap rfl ?_
     refine Zap rfl ?_
     refine Zap rfl ?_
     refine Zap rfl ?_
     refine ZaK rfl ?_
     refine Zaf ?_
     refine brT rfl ?_
     refine Zag ?_
     refine Zab ?_
     refine Zaf ?_
     refine Za9 ?_
     repeat (first|refine ZaT ?_|refine ZaS ?_|refine ZaH ?_)
     exact .inr ⟨rfl,(fun h=>by rw[e3,eB]at h;cases h),_,Zaq ⟨congrArg (fun x=>some (SV.v (.i .i64) x)) (e3.trans eB).symm,trivial⟩⟩
    |true=>
     rw[c2]at eB p2
     cases c3:inR x.2.2.2.2 0 100000 with
     |false=>
      rw[c3]at eB p3
      have eB:Zbv nodes (ZaO stI ks l i) (stI x)=4:=eB
      have e3:=he.trans (Zbs gx0 (by rw[eB];decide))
      refine Zag ?_
      refine Zab ?_
      refine Zak rfl (fun _=>rfl) rfl rfl rfl ?_
      refine Zad rfl ((p1).mono ?_)
      rintro _ rfl
      refine Zaa rfl rfl ?_
      iterate 2 refine Zab ?_
      refine Zac rfl ?_
      refine Zam rfl rfl rfl rfl (fun _=>rfl) rfl rfl rfl ?_
      refine Zaw rfl rfl rfl rfl ((p2).mono ?_)
      rintro _ rfl
      refine Zaa rfl rfl ?_
      refine Zac rfl ?_
      refine Zat rfl ?_
      refine Zab ?_
      refine Zac rfl ?_
      refine Zam rfl rfl rfl rfl (fun _=>rfl) rfl rfl rfl ?_
      refine Zaw rfl rfl rfl rfl ((p3).mono ?_)
      rintro _ rfl
      refine Zaa rfl rfl ?_
      refine Zac rfl ?_
      refine Zat rfl ?_
      refine Zaf ?_
      refine brT rfl ?_
      refine Zag ?_
      refine Zab ?_
      refine Zaf ?_
      refine Za9 ?_
      repeat (first|refine ZaT ?_|refine ZaS ?_|refine ZaH ?_)
      exact .inr ⟨rfl,(fun h=>by rw[e3,eB]at h;cases h),_,Zaq ⟨congrArg (fun x=>some (SV.v (.i .i64) x)) (e3.trans eB).symm,trivial⟩⟩
     |true=>
      rw[c3]at eB p3
      have eB:Zbv nodes (ZaO stI ks l i) (stI x)=0:=eB
      refine Zag ?_
      refine Zab ?_
      refine Zak rfl (fun _=>rfl) rfl rfl rfl ?_
      refine Zad rfl ((p1).mono ?_)
      rintro _ rfl
      refine Zaa rfl rfl ?_
      iterate 2 refine Zab ?_
      refine Zac rfl ?_
      refine Zam rfl rfl rfl rfl (fun _=>rfl) rfl rfl rfl ?_
      refine Zaw rfl rfl rfl rfl ((p2).mono ?_)
      rintro _ rfl
      refine Zaa rfl rfl ?_
      refine Zac rfl ?_
      refine Zat rfl ?_
      refine Zab ?_
      refine Zac rfl ?_
      refine Zam rfl rfl rfl rfl (fun _=>rfl) rfl rfl rfl ?_
      refine Zaw rfl rfl rfl rfl ((p3).mono ?_)
      rintro _ rfl
      refine Zaa rfl rfl ?_
      refine Zac rfl ?_
      refine Zat rfl ?_
      refine Zaf ?_
      refine brF rfl ?_
      refine Zag ?_
      iterate 2 refine Zab ?_
      refine Zaf ?_
      refine⟨i+1,⟨hlt,he.trans (ZgO gx0 eB)⟩,by show l.length-(i+1)<l.length-i;omega, ?_⟩
      have em: ∀A B:SM,[SM.cell netc true, .set (ZaO stI ks l i), .cell [.mp 1, .v (.l .s) nodes] true, .cell [.mp 1, .v (.l .s) nodes] true, .cell netc true,A,B].set 1 (.set (ZaO stI ks l i++ [x.1]))++ex=hE netc nodes (ZaO stI ks l (i+1))++(A::B::ex):=fun A B=>congrArg (fun z=>hE netc nodes z++(A::B::ex)) (ZcT (f:=stI) gx0)
      rw[em]
      exact ZeQ (hp0:=hE netc nodes (ZaO stI ks l (i+1))) (Nat.le_of_ble_eq_true rfl) ⟨rfl,ZaZ (by show 3<5;omega),rfl,ZaZ (by show 4<5;omega),rfl,ZaA,rfl,ZaA,congrArg (fun x=>some (SV.v (.i .i64) x)) (Zc6 (by omega)),ZaA,trivial⟩ (ZsL hr)
  |false=>
   have e2:=of_decide_eq_false h2
   have hc:(!decide (Zbv nodes (ZaO stI ks l i) (Zeh x.1 [x.2.1])=0))=true:=by rw[h2];rfl
   rw[Zcy,h2]at eB
   have eB:Zbv nodes (ZaO stI ks l i) (stI x)=Zbv nodes (ZaO stI ks l i) (Zeh x.1 [x.2.1]):=eB
   refine Zag ?_
   iterate 2 refine Zab ?_
   refine Zaf ?_
   refine brT hc ?_
   refine Zag ?_
   iterate 2 refine Zab ?_
   refine Zaf ?_
   refine Za9 ?_
   repeat (first|refine ZaT ?_|refine ZaS ?_|refine ZaH ?_)
   have e3:=(he.trans (Zbs gx0 (by rw[eB];exact e2))).trans eB
   exact .inr ⟨rfl,fun h=>e2 (e3.symm.trans h),_,Zaq ⟨congrArg (fun x=>some (SV.v (.i .i64) x)) e3.symm,trivial⟩⟩
end Go.Proofs.YtkhpbclcfldhmaaGreatDoor
