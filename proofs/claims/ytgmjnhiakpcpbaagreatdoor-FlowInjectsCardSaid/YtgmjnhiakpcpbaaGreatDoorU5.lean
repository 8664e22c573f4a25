/-
 (netmodel.checker).ends: the loops over generators, loads and stores. (Printed by tools/genends.py.)
-/
import Derived.Test.YtgmjnhiakpcpbaaGreatDoorU4
set_option linter.constructorNameAsVariable false
set_option linter.unusedSimpArgs false
set_option linter.unusedVariables false
namespace Go.Proofs.YtgmjnhiakpcpbaaGreatDoor
open Go.Am Go.Tx Ne
set_option maxRecDepth 100000
def hE (netc:List SV) (nodes ks:List Txt):List SM:=[.cell netc true, .set ks, .cell [.mp 1, .v (.l .s) nodes] true, .cell [.mp 1, .v (.l .s) nodes] true, .cell netc true]
theorem ZoW {netc:List SV} {nodes ks:List Txt} (hr:rchL netc=[]): ∀m∈hE netc nodes ks,∀id∈ZgJ m,id<5:=by
 intro m hm id hid
 simp only[hE,List.mem_cons,List.not_mem_nil,or_false]at hm
 rcases hm with rfl|rfl|rfl|rfl|rfl
 ·rw[ZgJ,hr]at hid;exact absurd hid List.not_mem_nil
 ·exact absurd hid List.not_mem_nil
 ·have h:id=1:=by simpa[ZgJ,rchL,ZcZ]using hid
  omega
 ·have h:id=1:=by simpa[ZgJ,rchL,ZcZ]using hid
  omega
 ·rw[ZgJ,hr]at hid;exact absurd hid List.not_mem_nil
def vGe (l:List Ge) (i:Nat):TM:=[(2, .ptr 3 0 0),(3, .ptr 4 0 0),(15, .v (.l (.p .s (.p .s (.p (.i .i64) (.p (.i .i64) (.i .i64)))))) l),(16,nt l.length),(17,nt i)]
set_option maxHeartbeats 16000000 in
theorem Zsv (netc:List SV) (nodes ks:List Txt) (l:List Ge) (hr:rchL netc=[]) (hn:nodes.length≤1000) (hl:l.length≤1000) (hs: ∀x∈l,x.1.length≤9223372036854775806) (base:Nat):
 LoopOK Tryz.prog ZaO 3 ⟨46,base,105⟩ (Zbd Tryz.f46 2) (vGe l 0) (hE netc nodes ks)
 (fun e tm hp'=>(e= .exit 0∧ZaC nodes ks (l.map geI)=0∧Ent 3 tm hp' [(2, .ptr 3 0 0),(3, .ptr 4 0 0)] (hE netc nodes (ks++l.map (·.1))))∨(e= .ret∧ZaC nodes ks (l.map geI)≠0∧ ∃hp'',Ent 3 tm hp' [(4, .v (.i .i64) (ZaC nodes ks (l.map geI)))] hp'')):=by
 refine ZaH Zaw rfl (vGe l) (fun i=>hE netc nodes (ZaE geI ks l i)) (fun i=>i≤l.length∧ZaC nodes ks (l.map geI)=ZaC nodes (ZaE geI ks l i) ((l.drop i).map geI)) (fun i=>l.length-i) ?_ 0 ⟨Nat.zero_le _,by rw[ZaE,List.take_zero,List.map_nil,List.append_nil,List.drop_zero]⟩ ?_
 case refine_2=>
  have e0:ZaE geI ks l 0=ks:=by rw[ZaE,List.take_zero,List.map_nil,List.append_nil]
  rw[e0];exact ZaW
 rintro i ⟨hi,he⟩
 cases h1:decide ((i:Int)<(l.length:Int))with
 |false=>
  have e:i=l.length:=by have:=of_decide_eq_false h1;omega
  have e0:ZaC nodes ks (l.map geI)=0:=by rw[he,e,List.drop_length];rfl
  have em:ZaE geI ks l i=ks++l.map (·.1):=Zdp e
  refine Zae ?_
  refine Zab ?_
  refine Zad ?_
  refine brF h1 ?_
  refine .inl ⟨rfl,e0, ?_⟩
  rw[em]
  exact Zah ⟨rfl,rfl,trivial⟩
 |true=>
  have hlt:i<l.length:=by have:=of_decide_eq_true h1;omega
  have gx0:l[i]? =some l[i]:=List.getElem?_eq_getElem hlt
  have gx:l[(i:Int).toNat]? =some l[i]:=by rw[Int.toNat_natCast];exact gx0
  have hx:l[i].1.length≤9223372036854775806:=hs _ (List.getElem_mem hlt)
  obtain⟨x,ex⟩: ∃x,l[i]=x:=⟨_,rfl⟩
  rw[ex]at gx gx0 hx
  have hD:=ZeU [.cell netc true, .set (ZaE geI ks l i), .cell [.mp 1, .v (.l .s) nodes] true, .cell [.mp 1, .v (.l .s) nodes] true, .cell netc true, .cell [.v .s x.1, .v .s x.2.1, .v (.i .i64) x.2.2.1, .v (.i .i64) x.2.2.2.1, .v (.i .i64) x.2.2.2.2] true, .row .s [x.2.1] true] 1 6 nodes (ZaE geI ks l i) x.1 [x.2.1] hx hn (Nat.le_of_ble_eq_true rfl) rfl rfl (by decide)
  have eB:Zba nodes (ZaE geI ks l i) (geI x)=ZbO (Zba nodes (ZaE geI ks l i) (ZdG x.1 [x.2.1])) (bif !(inR x.2.2.1 0 100000)|| !(inR x.2.2.2.1 x.2.2.1 100000)|| !(inR x.2.2.2.2 0 100000)then 4 else 0):=ZgC
  refine Zae ?_
  refine Zab ?_
  refine Zad ?_
  refine brT h1 ?_
  refine Zae ?_
  refine ZaY rfl (fun _=>rfl) (Int.natCast_nonneg i) gx rfl rfl ?_
  refine Zab ?_
  refine Zbs ?_
  refine Zaf rfl (ZaM rfl rfl rfl rfl rfl rfl rfl rfl ?_)
  refine ZaI rfl ?_
  refine Zad ?_
  refine Zae ?_
  refine Zal rfl (fun _=>rfl) rfl rfl rfl ?_
  refine Zab ?_
  refine Zal rfl (fun _=>rfl) rfl rfl rfl ?_
  refine Zab ?_
  refine Zal rfl (fun _=>rfl) rfl rfl rfl ?_
  refine Zbs ?_
  refine Zaf rfl ((hD.mono ?_))
  rintro _ hp' ⟨rfl,hX⟩
  refine Zac rfl rfl ?_
  refine Zab ?_
  refine Zad ?_
  cases h2:decide (Zba nodes (ZaE geI ks l i) (ZdG x.1 [x.2.1])=0)with
  |true=>
   have e2:=of_decide_eq_true h2
   have hc:(!decide (Zba nodes (ZaE geI ks l i) (ZdG x.1 [x.2.1])=0))=false:=by rw[h2];rfl
   rw[ZbO,h2]at eB
   obtain⟨ex,rfl⟩:=hX e2
   have p1:=ZbX x.2.2.1
   have p2:=ZjM x.2.2.2.1 x.2.2.1 100000
   have p3:=ZbX x.2.2.2.2
   refine Zae ?_
   iterate 2 refine Zab ?_
   refine Zad ?_
   refine brF hc ?_
   cases c1:inR x.2.2.1 0 100000 with
   |false=>
    rw[c1]at eB p1
    have eB:Zba nodes (ZaE geI ks l i) (geI x)=4:=eB
    have e3:=he.trans (Zbc gx0 (by rw[eB];decide))
    refine Zae ?_
    refine Zab ?_
    refine Zal rfl (fun _=>rfl) rfl rfl rfl ?_
    refine Zaf rfl ((p1).mono ?_)
    rintro _ rfl
    refine Zac rfl rfl ?_
    iterate 2 refine Zab ?_
    refine Zag rfl ?_
    refine Zag rfl ?_
    refine Zag rfl ?_
    refine Zag rfl ?_
    refine Zag rfl ?_
    refine Zaq rfl ?_
    refine Zab ?_
    refine Zag rfl ?_
    refine Zag rfl ?_
    refine Zag rfl ?_
    refine Zag rfl ?_
    refine Zaq rfl ?_
    refine Zad ?_
    refine brT rfl ?_
    refine Zae ?_
    refine Zab ?_
    refine Zad ?_
    refine ZaA ?_
    repeat (first|refine Zau ?_|refine Zav ?_|refine Zar ?_)
    exact .inr ⟨rfl,(fun h=>by rw[e3,eB]at h;cases h),_,Zah ⟨congrArg (fun x=>some (SV.v (.i .i64) x)) (e3.trans eB).symm,trivial⟩⟩
   |true=>
    rw[c1]at eB p1
    cases c2:inR x.2.2.2.1 x.2.2.1 100000 with
    |false=>
     rw[c2]at eB p2
     have eB:Zba nodes (ZaE geI ks l i) (geI x)=4:=eB
     have e3:=he.trans (Zbc gx0 (by rw[eB];decide))
     refine Zae ?_
     refine Zab ?_
     refine Zal rfl (fun _=>rfl) rfl rfl rfl ?_
     refine Zaf rfl ((p1).mono ?_)
     rintro _ rfl
     refine Zac rfl rfl ?_
     iterate 2 refine Zab ?_
     refine Zaa rfl ?_
     refine Zai rfl rfl rfl rfl (fun _=>rfl) rfl rfl rfl ?_
     refine Zaa rfl ?_
     refine Zai rfl rfl rfl rfl (fun _=>rfl) rfl rfl rfl ?_
     refine Zao rfl rfl rfl rfl ((p2).mono ?_)
     rintro _ rfl
     refine Zac rfl rfl ?_
     refine Zap rfl ?_
     refine Zab ?_
     refine Zag rfl ?_
     refine Zag rfl ?_
     refine Zag rfl ?_
     refine Zag rfl ?_
     refine Zaq rfl ?_
     refine Zad ?_
     refine brT rfl ?_
     refine Zae ?_
     refine Zab ?_
     refine Zad ?_
     refine ZaA ?_
     repeat (first|refine Zau ?_|refine Zav ?_|refine Zar ?_)
     exact .inr ⟨rfl,(fun h=>by rw[e3,eB]at h;cases h),_,Zah ⟨congrArg (fun x=>some (SV.v (.i .i64) x)) (e3.trans eB).symm,trivial⟩⟩
    |true=>
     rw[c2]at eB p2
     cases c3:inR x.2.2.2.2 0 100000 with
     |false=>
      rw[c3]at eB p3
      have eB:Zba nodes (ZaE geI ks l i) (geI x)=4:=eB
      have e3:=he.trans (Zbc gx0 (by rw[eB];decide))
      refine Zae ?_
      refine Zab ?_
      refine Zal rfl (fun _=>rfl) rfl rfl rfl ?_
      refine Zaf rfl ((p1).mono ?_)
      rintro _ rfl
      refine Zac rfl rfl ?_
      iterate 2 refine Zab ?_
      refine Zaa rfl ?_
      refine Zai rfl rfl rfl rfl (fun _=>rfl) rfl rfl rfl ?_
      refine Zaa rfl ?_
      refine Zai rfl rfl rfl rfl (fun _=>rfl) rfl rfl rfl ?_
      refine Zao rfl rfl rfl rfl ((p2).mono ?_)
      rintro _ rfl
      refine Zac rfl rfl ?_
      refine Zap rfl ?_
      refine Zab ?_
      refine Zaa rfl ?_
      refine Zai rfl rfl rfl rfl (fun _=>rfl) rfl rfl rfl ?_
      refine Zao rfl rfl rfl rfl ((p3).mono ?_)
      rintro _ rfl
      refine Zac rfl rfl ?_
      refine Zaa rfl ?_
      refine Zap rfl ?_
      refine Zad ?_
      refine brT rfl ?_
      refine Zae ?_
      refine Zab ?_
      refine Zad ?_
      refine ZaA ?_
      repeat (first|refine Zau ?_|refine Zav ?_|refine Zar ?_)
      exact .inr ⟨rfl,(fun h=>by rw[e3,eB]at h;cases h),_,Zah ⟨congrArg (fun x=>some (SV.v (.i .i64) x)) (e3.trans eB).symm,trivial⟩⟩
     |true=>
      rw[c3]at eB p3
      have eB:Zba nodes (ZaE geI ks l i) (geI x)=0:=eB
      refine Zae ?_
      refine Zab ?_
      refine Zal rfl (fun _=>rfl) rfl rfl rfl ?_
      refine Zaf rfl ((p1).mono ?_)
      rintro _ rfl
      refine Zac rfl rfl ?_
      iterate 2 refine Zab ?_
      refine Zaa rfl ?_
      refine Zai rfl rfl rfl rfl (fun _=>rfl) rfl rfl rfl ?_
      refine Zaa rfl ?_
      refine Zai rfl rfl rfl rfl (fun _=>rfl) rfl rfl rfl ?_
      refine Zao rfl rfl rfl rfl ((p2).mono ?_)
      rintro _ rfl
      refine Zac rfl rfl ?_
      refine Zap rfl ?_
      refine Zab ?_
      refine Zaa rfl ?_
      refine Zai rfl rfl rfl rfl (fun _=>rfl) rfl rfl rfl ?_
      refine Zao rfl rfl rfl rfl ((p3).mono ?_)
      rintro _ rfl
      refine Zac rfl rfl ?_
      refine Zaa rfl ?_
      refine Zap rfl ?_
      refine Zad ?_
      refine brF rfl ?_
      refine Zae ?_
      iterate 2 refine Zab ?_
      refine Zad ?_
      refine⟨i+1,⟨hlt,he.trans (ZdX gx0 eB)⟩,by show l.length-(i+1)<l.length-i;omega, ?_⟩
      have em: ∀A B:SM,[SM.cell netc true, .set (ZaE geI ks l i), .cell [.mp 1, .v (.l .s) nodes] true, .cell [.mp 1, .v (.l .s) nodes] true, .cell netc true,A,B].set 1 (.set (ZaE geI ks l i++ [x.1]))++ex=hE netc nodes (ZaE geI ks l (i+1))++(A::B::ex):=fun A B=>congrArg (fun z=>hE netc nodes z++(A::B::ex)) (ZbQ (f:=geI) gx0)
      rw[em]
      exact Zd8 (hp0:=hE netc nodes (ZaE geI ks l (i+1))) (Nat.le_of_ble_eq_true rfl) ⟨rfl,ZaL (by show 3<5;omega),rfl,ZaL (by show 4<5;omega),rfl,Zas,rfl,Zas,congrArg (fun x=>some (SV.v (.i .i64) x)) (Za5 (by omega)),Zas,trivial⟩ (ZoW hr)
  |false=>
   have e2:=of_decide_eq_false h2
   have hc:(!decide (Zba nodes (ZaE geI ks l i) (ZdG x.1 [x.2.1])=0))=true:=by rw[h2];rfl
   rw[ZbO,h2]at eB
   have eB:Zba nodes (ZaE geI ks l i) (geI x)=Zba nodes (ZaE geI ks l i) (ZdG x.1 [x.2.1]):=eB
   refine Zae ?_
   iterate 2 refine Zab ?_
   refine Zad ?_
   refine brT hc ?_
   refine Zae ?_
   iterate 2 refine Zab ?_
   refine Zad ?_
   refine ZaA ?_
   repeat (first|refine Zau ?_|refine Zav ?_|refine Zar ?_)
   have e3:=(he.trans (Zbc gx0 (by rw[eB];exact e2))).trans eB
   exact .inr ⟨rfl,fun h=>e2 (e3.symm.trans h),_,Zah ⟨congrArg (fun x=>some (SV.v (.i .i64) x)) e3.symm,trivial⟩⟩
def vLo (l:List Lo) (i:Nat):TM:=[(2, .ptr 3 0 0),(3, .ptr 4 0 0),(50, .v (.l (.p .s (.p .s (.i .i64)))) l),(51,nt l.length),(52,nt i)]
set_option maxHeartbeats 16000000 in
theorem ZrZ (netc:List SV) (nodes ks:List Txt) (l:List Lo) (hr:rchL netc=[]) (hn:nodes.length≤1000) (hl:l.length≤1000) (hs: ∀x∈l,x.1.length≤9223372036854775806) (base:Nat):
 LoopOK Tryz.prog ZaO 3 ⟨46,base,105⟩ (Zbd Tryz.f46 11) (vLo l 0) (hE netc nodes ks)
 (fun e tm hp'=>(e= .exit 2∧ZaC nodes ks (l.map loI)=0∧Ent 3 tm hp' [(2, .ptr 3 0 0),(3, .ptr 4 0 0)] (hE netc nodes (ks++l.map (·.1))))∨(e= .ret∧ZaC nodes ks (l.map loI)≠0∧ ∃hp'',Ent 3 tm hp' [(4, .v (.i .i64) (ZaC nodes ks (l.map loI)))] hp'')):=by
 refine ZaH Zaw rfl (vLo l) (fun i=>hE netc nodes (ZaE loI ks l i)) (fun i=>i≤l.length∧ZaC nodes ks (l.map loI)=ZaC nodes (ZaE loI ks l i) ((l.drop i).map loI)) (fun i=>l.length-i) ?_ 0 ⟨Nat.zero_le _,by rw[ZaE,List.take_zero,List.map_nil,List.append_nil,List.drop_zero]⟩ ?_
 case refine_2=>
  have e0:ZaE loI ks l 0=ks:=by rw[ZaE,List.take_zero,List.map_nil,List.append_nil]
  rw[e0];exact ZaW
 rintro i ⟨hi,he⟩
 cases h1:decide ((i:Int)<(l.length:Int))with
 |false=>
  have e:i=l.length:=by have:=of_decide_eq_false h1;omega
  have e0:ZaC nodes ks (l.map loI)=0:=by rw[he,e,List.drop_length];rfl
  have em:ZaE loI ks l i=ks++l.map (·.1):=Zdp e
  refine Zae ?_
  refine Zab ?_
  refine Zad ?_
  refine brF h1 ?_
  refine .inl ⟨rfl,e0, ?_⟩
  rw[em]
  exact Zah ⟨rfl,rfl,trivial⟩
 |true=>
  have hlt:i<l.length:=by have:=of_decide_eq_true h1;omega
  have gx0:l[i]? =some l[i]:=List.getElem?_eq_getElem hlt
  have gx:l[(i:Int).toNat]? =some l[i]:=by rw[Int.toNat_natCast];exact gx0
  have hx:l[i].1.length≤9223372036854775806:=hs _ (List.getElem_mem hlt)
  obtain⟨x,ex⟩: ∃x,l[i]=x:=⟨_,rfl⟩
  rw[ex]at gx gx0 hx
  have hD:=ZeU [.cell netc true, .set (ZaE loI ks l i), .cell [.mp 1, .v (.l .s) nodes] true, .cell [.mp 1, .v (.l .s) nodes] true, .cell netc true, .cell [.v .s x.1, .v .s x.2.1, .v (.i .i64) x.2.2] true, .row .s [x.2.1] true] 1 6 nodes (ZaE loI ks l i) x.1 [x.2.1] hx hn (Nat.le_of_ble_eq_true rfl) rfl rfl (by decide)
  have eB:Zba nodes (ZaE loI ks l i) (loI x)=ZbO (Zba nodes (ZaE loI ks l i) (ZdG x.1 [x.2.1])) (bif !(inR x.2.2 0 100000)then 4 else 0):=ZgC
  refine Zae ?_
  refine Zab ?_
  refine Zad ?_
  refine brT h1 ?_
  refine Zae ?_
  refine ZaY rfl (fun _=>rfl) (Int.natCast_nonneg i) gx rfl rfl ?_
  refine Zab ?_
  refine Zbs ?_
  refine Zaf rfl (ZaM rfl rfl rfl rfl rfl rfl rfl rfl ?_)
  refine ZaI rfl ?_
  refine Zad ?_
  refine Zae ?_
  refine Zal rfl (fun _=>rfl) rfl rfl rfl ?_
  refine Zab ?_
  refine Zal rfl (fun _=>rfl) rfl rfl rfl ?_
  refine Zab ?_
  refine Zal rfl (fun _=>rfl) rfl rfl rfl ?_
  refine Zbs ?_
  refine Zaf rfl ((hD.mono ?_))
  rintro _ hp' ⟨rfl,hX⟩
  refine Zac rfl rfl ?_
  refine Zab ?_
  refine Zad ?_
  cases h2:decide (Zba nodes (ZaE loI ks l i) (ZdG x.1 [x.2.1])=0)with
  |true=>
   have e2:=of_decide_eq_true h2
   have hc:(!decide (Zba nodes (ZaE loI ks l i) (ZdG x.1 [x.2.1])=0))=false:=by rw[h2];rfl
   rw[ZbO,h2]at eB
   obtain⟨ex,rfl⟩:=hX e2
   have p1:=ZbX x.2.2
   refine Zae ?_
   iterate 2 refine Zab ?_
   refine Zad ?_
   refine brF hc ?_
   cases c1:inR x.2.2 0 100000 with
   |false=>
    rw[c1]at eB p1
    have eB:Zba nodes (ZaE loI ks l i) (loI x)=4:=eB
    have e3:=he.trans (Zbc gx0 (by rw[eB];decide))
    refine Zae ?_
    refine Zab ?_
    refine Zal rfl (fun _=>rfl) rfl rfl rfl ?_
    refine Zaf rfl ((p1).mono ?_)
    rintro _ rfl
    refine Zac rfl rfl ?_
    refine Zab ?_
    refine Zad ?_
    refine brT rfl ?_
    refine Zae ?_
    refine Zab ?_
    refine Zad ?_
    refine ZaA ?_
    repeat (first|refine Zau ?_|refine Zav ?_|refine Zar ?_)
    exact .inr ⟨rfl,(fun h=>by rw[e3,eB]at h;cases h),_,Zah ⟨congrArg (fun x=>some (SV.v (.i .i64) x)) (e3.trans eB).symm,trivial⟩⟩
   |true=>
    rw[c1]at eB p1
    have eB:Zba nodes (ZaE loI ks l i) (loI x)=0:=eB
    refine Zae ?_
    refine Zab ?_
    refine Zal rfl (fun _=>rfl) rfl rfl rfl ?_
    refine Zaf rfl ((p1).mono ?_)
    rintro _ rfl
    refine Zac rfl rfl ?_
    refine Zab ?_
    refine Zad ?_
    refine brF rfl ?_
    refine Zae ?_
    iterate 2 refine Zab ?_
    refine Zad ?_
    refine⟨i+1,⟨hlt,he.trans (ZdX gx0 eB)⟩,by show l.length-(i+1)<l.length-i;omega, ?_⟩
    have em: ∀A B:SM,[SM.cell netc true, .set (ZaE loI ks l i), .cell [.mp 1, .v (.l .s) nodes] true, .cell [.mp 1, .v (.l .s) nodes] true, .cell netc true,A,B].set 1 (.set (ZaE loI ks l i++ [x.1]))++ex=hE netc nodes (ZaE loI ks l (i+1))++(A::B::ex):=fun A B=>congrArg (fun z=>hE netc nodes z++(A::B::ex)) (ZbQ (f:=loI) gx0)
    rw[em]
    exact Zd8 (hp0:=hE netc nodes (ZaE loI ks l (i+1))) (Nat.le_of_ble_eq_true rfl) ⟨rfl,ZaL (by show 3<5;omega),rfl,ZaL (by show 4<5;omega),rfl,Zas,rfl,Zas,congrArg (fun x=>some (SV.v (.i .i64) x)) (Za5 (by omega)),Zas,trivial⟩ (ZoW hr)
  |false=>
   have e2:=of_decide_eq_false h2
   have hc:(!decide (Zba nodes (ZaE loI ks l i) (ZdG x.1 [x.2.1])=0))=true:=by rw[h2];rfl
   rw[ZbO,h2]at eB
   have eB:Zba nodes (ZaE loI ks l i) (loI x)=Zba nodes (ZaE loI ks l i) (ZdG x.1 [x.2.1]):=eB
   refine Zae ?_
   iterate 2 refine Zab ?_
   refine Zad ?_
   refine brT hc ?_
   refine Zae ?_
   iterate 2 refine Zab ?_
   refine Zad ?_
   refine ZaA ?_
   repeat (first|refine Zau ?_|refine Zav ?_|refine Zar ?_)
   have e3:=(he.trans (Zbc gx0 (by rw[eB];exact e2))).trans eB
   exact .inr ⟨rfl,fun h=>e2 (e3.symm.trans h),_,Zah ⟨congrArg (fun x=>some (SV.v (.i .i64) x)) e3.symm,trivial⟩⟩
def vSt (l:List Sto) (i:Nat):TM:=[(2, .ptr 3 0 0),(3, .ptr 4 0 0),(72, .v (.l (.p .s (.p .s (.p (.i .i64) (.p (.i .i64) (.i .i64)))))) l),(73,nt l.length),(74,nt i)]
set_option maxHeartbeats 16000000 in
theorem ZsZ (netc:List SV) (nodes ks:List Txt) (l:List Sto) (hr:rchL netc=[]) (hn:nodes.length≤1000) (hl:l.length≤1000) (hs: ∀x∈l,x.1.length≤9223372036854775806) (base:Nat):
 LoopOK Tryz.prog ZaO 3 ⟨46,base,105⟩ (Zbd Tryz.f46 20) (vSt l 0) (hE netc nodes ks)
 (fun e tm hp'=>(e= .exit 4∧ZaC nodes ks (l.map stI)=0∧Ent 3 tm hp' [(2, .ptr 3 0 0),(3, .ptr 4 0 0)] (hE netc nodes (ks++l.map (·.1))))∨(e= .ret∧ZaC nodes ks (l.map stI)≠0∧ ∃hp'',Ent 3 tm hp' [(4, .v (.i .i64) (ZaC nodes ks (l.map stI)))] hp'')):=by
 refine ZaH Zaw rfl (vSt l) (fun i=>hE netc nodes (ZaE stI ks l i)) (fun i=>i≤l.length∧ZaC nodes ks (l.map stI)=ZaC nodes (ZaE stI ks l i) ((l.drop i).map stI)) (fun i=>l.length-i) ?_ 0 ⟨Nat.zero_le _,by rw[ZaE,List.take_zero,List.map_nil,List.append_nil,List.drop_zero]⟩ ?_
 case refine_2=>
  have e0:ZaE stI ks l 0=ks:=by rw[ZaE,List.take_zero,List.map_nil,List.append_nil]
  rw[e0];exact ZaW
 rintro i ⟨hi,he⟩
 cases h1:decide ((i:Int)<(l.length:Int))with
 |false=>
  have e:i=l.length:=by have:=of_decide_eq_false h1;omega
  have e0:ZaC nodes ks (l.map stI)=0:=by rw[he,e,List.drop_length];rfl
  have em:ZaE stI ks l i=ks++l.map (·.1):=Zdp e
  refine Zae ?_
  refine Zab ?_
  refine Zad ?_
  refine brF h1 ?_
  refine .inl ⟨rfl,e0, ?_⟩
  rw[em]
  exact Zah ⟨rfl,rfl,trivial⟩
 |true=>
  have hlt:i<l.length:=by have:=of_decide_eq_true h1;omega
  have gx0:l[i]? =some l[i]:=List.getElem?_eq_getElem hlt
  have gx:l[(i:Int).toNat]? =some l[i]:=by rw[Int.toNat_natCast];exact gx0
  have hx:l[i].1.length≤9223372036854775806:=hs _ (List.getElem_mem hlt)
  obtain⟨x,ex⟩: ∃x,l[i]=x:=⟨_,rfl⟩
  rw[ex]at gx gx0 hx
  have hD:=ZeU [.cell netc true, .set (ZaE stI ks l i), .cell [.mp 1, .v (.l .s) nodes] true, .cell [.mp 1, .v (.l .s) nodes] true, .cell netc true, .cell [.v .s x.1, .v .s x.2.1, .v (.i .i64) x.2.2.1, .v (.i .i64) x.2.2.2.1, .v (.i .i64) x.2.2.2.2] true, .row .s [x.2.1] true] 1 6 nodes (ZaE stI ks l i) x.1 [x.2.1] hx hn (Nat.le_of_ble_eq_true rfl) rfl rfl (by decide)
  have eB:Zba nodes (ZaE stI ks l i) (stI x)=ZbO (Zba nodes (ZaE stI ks l i) (ZdG x.1 [x.2.1])) (bif !(inR x.2.2.1 0 100000)|| !(inR x.2.2.2.1 0 100000)|| !(inR x.2.2.2.2 0 100000)then 4 else 0):=ZgC
  refine Zae ?_
  refine Zab ?_
  refine Zad ?_
  refine brT h1 ?_
  refine Zae ?_
  refine ZaY rfl (fun _=>rfl) (Int.natCast_nonneg i) gx rfl rfl ?_
  refine Zab ?_
  refine Zbs ?_
  refine Zaf rfl (ZaM rfl rfl rfl rfl rfl rfl rfl rfl ?_)
  refine ZaI rfl ?_
  refine Zad ?_
  refine Zae ?_
  refine Zal rfl (fun _=>rfl) rfl rfl rfl ?_
  refine Zab ?_
  refine Zal rfl (fun _=>rfl) rfl rfl rfl ?_
  refine Zab ?_
  refine Zal rfl (fun _=>rfl) rfl rfl rfl ?_
  refine Zbs ?_
  refine Zaf rfl ((hD.mono ?_))
  rintro _ hp' ⟨rfl,hX⟩
  refine Zac rfl rfl ?_
  refine Zab ?_
  refine Zad ?_
  cases h2:decide (Zba nodes (ZaE stI ks l i) (ZdG x.1 [x.2.1])=0)with
  |true=>
   have e2:=of_decide_eq_true h2
   have hc:(!decide (Zba nodes (ZaE stI ks l i) (ZdG x.1 [x.2.1])=0))=false:=by rw[h2];rfl
   rw[ZbO,h2]at eB
   obtain⟨ex,rfl⟩:=hX e2
   have p1:=ZbX x.2.2.1
   have p2:=ZbX x.2.2.2.1
   have p3:=ZbX x.2.2.2.2
   refine Zae ?_
   iterate 2 refine Zab ?_
   refine Zad ?_
   refine brF hc ?_
   cases c1:inR x.2.2.1 0 100000 with
   |false=>
    rw[c1]at eB p1
    have eB:Zba nodes (ZaE stI ks l i) (stI x)=4:=eB
    have e3:=he.trans (Zbc gx0 (by rw[eB];decide))
    refine Zae ?_
    refine Zab ?_
    refine Zal rfl (fun _=>rfl) rfl rfl rfl ?_
    refine Zaf rfl ((p1).mono ?_)
    rintro _ rfl
    refine Zac rfl rfl ?_
    iterate 2 refine Zab ?_
    refine Zag rfl ?_
    refine Zag rfl ?_
    refine Zag rfl ?_
    refine Zag rfl ?_
    refine Zaq rfl ?_
    refine Zab ?_
    refine Zag rfl ?_
    refine Zag rfl ?_
    refine Zag rfl ?_
    refine Zag rfl ?_
    refine Zaq rfl ?_
    refine Zad ?_
    refine brT rfl ?_
    refine Zae ?_
    refine Zab ?_
    refine Zad ?_
    refine ZaA ?_
    repeat (first|refine Zau ?_|refine Zav ?_|refine Zar ?_)
    exact .inr ⟨rfl,(fun h=>by rw[e3,eB]at h;cases h),_,Zah ⟨congrArg (fun x=>some (SV.v (.i .i64) x)) (e3.trans eB).symm,trivial⟩⟩
   |true=>
    rw[c1]at eB p1
    cases c2:inR x.2.2.2.1 0 100000 with
    |false=>
     rw[c2]at eB p2
     have eB:Zba nodes (ZaE stI ks l i) (stI x)=4:=eB
     have e3:=he.trans (Zbc gx0 (by rw[eB];decide))
     refine Zae ?_
     refine Zab ?_
     refine Zal rfl (fun _=>rfl) rfl rfl rfl ?_
     refine Zaf rfl ((p1).mono ?_)
     rintro _ rfl
     refine Zac rfl rfl ?_
     iterate 2 refine Zab ?_
     refine Zaa rfl ?_
     refine Zai rfl rfl rfl rfl (fun _=>rfl) rfl rfl rfl ?_
     refine Zao rfl rfl rfl rfl ((p2).mono ?_)
     rintro _ rfl
     refine Zac rfl rfl ?_
     refine Zaa rfl ?_
     refine Zap rfl ?_
     refine Zab ?_
     refine Zag rfl ?_
     refine Zag rfl ?_
     refine Zag rfl ?_
     refine Zag rfl ?_
     refine Zaq rfl ?_
     refine Zad ?_
     refine brT rfl ?_
     refine Zae ?_
     refine Zab ?_
     refine Zad ?_
     refine ZaA ?_
     repeat (first|refine Zau ?_|refine Zav ?_|refine Zar ?_)
     exact .inr ⟨rfl,(fun h=>by rw[e3,eB]at h;cases h),_,Zah ⟨congrArg (fun x=>some (SV.v (.i .i64) x)) (e3.trans eB).symm,trivial⟩⟩
    |true=>
     rw[c2]at eB p2
     cases c3:inR x.2.2.2.2 0 100000 with
     |false=>
      rw[c3]at eB p3
      have eB:Zba nodes (ZaE stI ks l i) (stI x)=4:=eB
      have e3:=he.trans (Zbc gx0 (by rw[eB];decide))
      refine Zae ?_
      refine Zab ?_
      refine Zal rfl (fun _=>rfl) rfl rfl rfl ?_
      refine Zaf rfl ((p1).mono ?_)
      rintro _ rfl
      refine Zac rfl rfl ?_
      iterate 2 refine Zab ?_
      refine Zaa rfl ?_
      refine Zai rfl rfl rfl rfl (fun _=>rfl) rfl rfl rfl ?_
      refine Zao rfl rfl rfl rfl ((p2).mono ?_)
      rintro _ rfl
      refine Zac rfl rfl ?_
      refine Zaa rfl ?_
      refine Zap rfl ?_
      refine Zab ?_
      refine Zaa rfl ?_
      refine Zai rfl rfl rfl rfl (fun _=>rfl) rfl rfl rfl ?_
      refine Zao rfl rfl rfl rfl ((p3).mono ?_)
      rintro _ rfl
      refine Zac rfl rfl ?_
      refine Zaa rfl ?_
      refine Zap rfl ?_
      refine Zad ?_
      refine brT rfl ?_
      refine Zae ?_
      refine Zab ?_
      refine Zad ?_
      refine ZaA ?_
      repeat (first|refine Zau ?_|refine Zav ?_|refine Zar ?_)
      exact .inr ⟨rfl,(fun h=>by rw[e3,eB]at h;cases h),_,Zah ⟨congrArg (fun x=>some (SV.v (.i .i64) x)) (e3.trans eB).symm,trivial⟩⟩
     |true=>
      rw[c3]at eB p3
      have eB:Zba nodes (ZaE stI ks l i) (stI x)=0:=eB
      refine Zae ?_
      refine Zab ?_
      refine Zal rfl (fun _=>rfl) rfl rfl rfl ?_
      refine Zaf rfl ((p1).mono ?_)
      rintro _ rfl
      refine Zac rfl rfl ?_
      iterate 2 refine Zab ?_
      refine Zaa rfl ?_
      refine Zai rfl rfl rfl rfl (fun _=>rfl) rfl rfl rfl ?_
      refine Zao rfl rfl rfl rfl ((p2).mono ?_)
      rintro _ rfl
      refine Zac rfl rfl ?_
      refine Zaa rfl ?_
      refine Zap rfl ?_
      refine Zab ?_
      refine Zaa rfl ?_
      refine Zai rfl rfl rfl rfl (fun _=>rfl) rfl rfl rfl ?_
      refine Zao rfl rfl rfl rfl ((p3).mono ?_)
      rintro _ rfl
      refine Zac rfl rfl ?_
      refine Zaa rfl ?_
      refine Zap rfl ?_
      refine Zad ?_
      refine brF rfl ?_
      refine Zae ?_
      iterate 2 refine Zab ?_
      refine Zad ?_
      refine⟨i+1,⟨hlt,he.trans (ZdX gx0 eB)⟩,by show l.length-(i+1)<l.length-i;omega, ?_⟩
      have em: ∀A B:SM,[SM.cell netc true, .set (ZaE stI ks l i), .cell [.mp 1, .v (.l .s) nodes] true, .cell [.mp 1, .v (.l .s) nodes] true, .cell netc true,A,B].set 1 (.set (ZaE stI ks l i++ [x.1]))++ex=hE netc nodes (ZaE stI ks l (i+1))++(A::B::ex):=fun A B=>congrArg (fun z=>hE netc nodes z++(A::B::ex)) (ZbQ (f:=stI) gx0)
      rw[em]
      exact Zd8 (hp0:=hE netc nodes (ZaE stI ks l (i+1))) (Nat.le_of_ble_eq_true rfl) ⟨rfl,ZaL (by show 3<5;omega),rfl,ZaL (by show 4<5;omega),rfl,Zas,rfl,Zas,congrArg (fun x=>some (SV.v (.i .i64) x)) (Za5 (by omega)),Zas,trivial⟩ (ZoW hr)
  |false=>
   have e2:=of_decide_eq_false h2
   have hc:(!decide (Zba nodes (ZaE stI ks l i) (ZdG x.1 [x.2.1])=0))=true:=by rw[h2];rfl
   rw[ZbO,h2]at eB
   have eB:Zba nodes (ZaE stI ks l i) (stI x)=Zba nodes (ZaE stI ks l i) (ZdG x.1 [x.2.1]):=eB
   refine Zae ?_
   iterate 2 refine Zab ?_
   refine Zad ?_
   refine brT hc ?_
   refine Zae ?_
   iterate 2 refine Zab ?_
   refine Zad ?_
   refine ZaA ?_
   repeat (first|refine Zau ?_|refine Zav ?_|refine Zar ?_)
   have e3:=(he.trans (Zbc gx0 (by rw[eB];exact e2))).trans eB
   exact .inr ⟨rfl,fun h=>e2 (e3.symm.trans h),_,Zah ⟨congrArg (fun x=>some (SV.v (.i .i64) x)) e3.symm,trivial⟩⟩
end Go.Proofs.YtgmjnhiakpcpbaaGreatDoor
