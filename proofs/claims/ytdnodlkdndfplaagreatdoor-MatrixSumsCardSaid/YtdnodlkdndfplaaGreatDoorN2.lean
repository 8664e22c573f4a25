/-
 The law MatrixSums.
-/
import Derived.Test.YtdnodlkdndfplaaGreatDoorN1
set_option linter.constructorNameAsVariable false
set_option linter.unusedSimpArgs false
set_option linter.unusedVariables false
namespace Go.Proofs.YtdnodlkdndfplaaGreatDoor
open Go.Am Go.Tx Dv Go.Lib
set_option maxRecDepth 100000
def Zr8:Ex→TM→List SM→Prop:=ZtM tys Tryz.f3.results.toList fun V hp=>Zh9 hp 40 V fun V=>V= .v .b true
theorem Zvu (a b:List (List (List UInt8))) (r:List UInt8):PureOK Tryz.prog Zat 17 [.v (.i .i64) 6, .v (.l (.l (.l .s))) [a,b,sub [sub [r] 0 1] 0 1]] (fun V=>V= .v .b (ZdM 6 [a,b,[[r]]])):=
 ZwA 6 [a,b,[[r]]] (show 3≤1000 by decide) fun x _ h1=>⟨by omega,fun v _ h2=>by omega⟩
def SumH (a b:List (List (List UInt8))) (r:List UInt8) (S:SV) (e E:Int):Prop:=(decide (E=0)=false∧S= .nils∧e=E)∨(E=0∧ZgG 0 (ZdY S)=true∧(ZdM 6 [a,b,[[r]]]=true∨Zw3 a b S e 0))
def ScaH (a b:List (List (List UInt8))) (r:List UInt8) (C:SV) (f F:Int):Prop:=(decide (F=0)=false∧C= .nils∧f=F)∨(F=0∧ZgG 0 (ZdY C)=true∧(ZdM 6 [a,b,[[r]]]=true∨Zxv a r C f 0))
theorem ZrB {g:Rat→Rat→Rat} {k:Nat} (hg: ∀p q,dz p 12→dz q 12→dz (g p q) k) (hk:k≤2000) {pss qss:List (List Rat)} (d1: ∀ps∈pss,∀p∈ps,dz p 12) (d2: ∀ps∈qss,∀p∈ps,dz p 12):ZnL (Zeb g pss qss)=true:=by
 refine ZnE fun r hr q hq=> ?_
 obtain⟨i,hi,rfl⟩:=List.getElem_of_mem hr
 obtain⟨j,hj,rfl⟩:=List.getElem_of_mem hq
 simp only[Zeb,List.getElem_zipWith]at hj⊢
 exact Zwy hk (hg _ _ (d1 _ (List.getElem_mem _) _ (List.getElem_mem _)) (d2 _ (List.getElem_mem _) _ (List.getElem_mem _)))
theorem Zsi {a b:List (List (List UInt8))} (r:List UInt8) {V:SV} (h:ZwW a b V): ∃S e,V= .tup [S, .v (.i .i64) e]∧SumH a b r S e (ZsL a b):=by
 rcases h with⟨h1,rfl⟩|⟨h1,pss,qss,hM,hN,hS,rfl⟩
 ·exact⟨_,_,rfl, .inl ⟨h1,rfl,rfl⟩⟩
 ·rw[h1]
  unfold ZmA
  cases hv:ZdM 6 [a,b,[[r]]]with
  |true=>
   cases ZnL (Zeb (· + ·) pss qss)with
   |true=>exact⟨_,_,rfl, .inr ⟨rfl,rfl, .inl hv⟩⟩
   |false=>exact⟨_,_,rfl, .inr ⟨rfl,rfl, .inl hv⟩⟩
  |false=>
   obtain⟨_,_,d1⟩:=Zjq (n:=6) (pss:=pss) hv (by rw[←hM.txt];exact List.mem_cons_self)
   obtain⟨_,_,d2⟩:=Zjq (n:=6) (pss:=qss) hv (by rw[←hN.txt];exact List.mem_cons_of_mem _ List.mem_cons_self)
   rw[ZrB (fun p q=>Zwq) (by decide) d1 d2]
   exact⟨_,_,rfl, .inr ⟨rfl,rfl, .inr (.inr ⟨rfl,rfl,pss,qss,hM.txt,hN.txt,hS,d1,d2,rfl⟩)⟩⟩
theorem Zs9 {a:List (List (List UInt8))} (b:List (List (List UInt8))) {r:List UInt8} {V:SV} (h:ZnR a r V): ∃C f,V= .tup [C, .v (.i .i64) f]∧ScaH a b r C f (ZfR (ZcG a) (ZaP r)):=by
 rcases h with⟨h1,rfl⟩|⟨h1,pss,q,hM,rfl,hq,rfl⟩
 ·exact⟨_,_,rfl, .inl ⟨h1,rfl,rfl⟩⟩
 ·rw[h1]
  unfold ZmA
  cases hv:ZdM 6 [a,b,[[Zbi q]]]with
  |true=>
   cases ZnL (Zeb (fun x _=>x*q) pss pss)with
   |true=>exact⟨_,_,rfl, .inr ⟨rfl,rfl, .inl hv⟩⟩
   |false=>exact⟨_,_,rfl, .inr ⟨rfl,rfl, .inl hv⟩⟩
  |false=>
   obtain⟨_,_,d1⟩:=Zjq (n:=6) (pss:=pss) hv (by rw[←hM.txt];exact List.mem_cons_self)
   obtain⟨_,d2⟩:=Zrp (n:=6) (qs:=[q]) hv (by simp)
   have d3:=d2 q List.mem_cons_self
   rw[ZrB (fun p _ h _=>Zwg h d3) (by decide) d1 d1]
   exact⟨_,_,rfl, .inr ⟨rfl,rfl, .inr (.inr ⟨rfl,rfl,pss,q,hM.txt,rfl,d1,d3,rfl⟩)⟩⟩
def c11 (a b:List (List (List UInt8))) (r:List UInt8) (S C:SV) (e f E F:Int):TM:=[(0, .v (.l (.l .s)) a),(1, .v (.l (.l .s)) b),(2, .v .s r),(9,S),(10, .v (.i .i64) e),(11,C),(12, .v (.i .i64) f),(19, .v (.i .i64) E),(20, .v (.i .i64) F)]
set_option maxHeartbeats 16000000 in
theorem ZnM (a b:List (List (List UInt8))) (r:List UInt8) (S C:SV) (e f E F:Int) (rS:ZgG 0 (ZdY S)=true) (rC:ZgG 0 (ZdY C)=true) (hs:ZdM 6 [a,b,[[r]]]=true∨Zw3 a b S e E) (hc:ZdM 6 [a,b,[[r]]]=true∨Zxv a r C f F):
 CodeOK Tryz.prog Zat 0 cxS (ZjL 11 (ZbP Tryz.f3)) (c11 a b r S C e f E F) [] Zr8:=by
 have h3v:=Zvu a b r
 refine Za8 (Zbo Zal ?_)
 cases vv:ZdM 6 [a,b,[[r]]]with
 |true=>
  repeat (first|refine Zaj ?_|refine Zaf ?_|refine Zac ?_)
  first|refine Zab (Zaa (id:=27) rfl ?_)|refine Zab (Zab (Zaa (id:=27) rfl ?_))|refine Zaa (id:=27) rfl ?_|refine Zab (Zad rfl (Zab (Zaa (id:=27) rfl ?_)))|refine Zad rfl (Zab (Zaa (id:=27) rfl ?_))
  refine Zah rfl (fun _=>rfl) rfl rfl ?_
  refine Zah rfl (fun _=>rfl) rfl rfl ?_
  refine Zah rfl (fun _=>rfl) rfl rfl ?_
  refine Zmu rfl (fun _=>rfl) rfl rfl ?_
  refine Zmu rfl (fun _=>rfl) rfl rfl ?_
  refine Zmu rfl (fun _=>rfl) rfl rfl ?_
  refine Zbv rfl (And.intro (show 0+3≤3 by decide) (And.intro (show 0+1≤1 by decide) (And.intro (show 0+1≤1 by decide) ((h3v).mono ?_))))
  rintro _ rfl
  refine ZaE rfl rfl ?_
  refine Zam ?_
  repeat (first|refine Zaf ?_|refine Zac ?_)
  exact And.intro (fun _=>rfl) (fun h=>by first|(cases h;done)|exact(nf vv h).elim)
 |false=>
  rw[vv]at hs hc
  have hs:=hs.resolve_left (by decide)
  have hc:=hc.resolve_left (by decide)
  obtain⟨v1,v2⟩:=Ze4 vv a List.mem_cons_self
  have v3:=Ze9 v2
  repeat (first|refine Zaj ?_|refine Zaf ?_|refine Zac ?_)
  first|refine Zab (Zaa (id:=27) rfl ?_)|refine Zab (Zab (Zaa (id:=27) rfl ?_))|refine Zaa (id:=27) rfl ?_|refine Zab (Zad rfl (Zab (Zaa (id:=27) rfl ?_)))|refine Zad rfl (Zab (Zaa (id:=27) rfl ?_))
  refine Zah rfl (fun _=>rfl) rfl rfl ?_
  refine Zah rfl (fun _=>rfl) rfl rfl ?_
  refine Zah rfl (fun _=>rfl) rfl rfl ?_
  refine Zmu rfl (fun _=>rfl) rfl rfl ?_
  refine Zmu rfl (fun _=>rfl) rfl rfl ?_
  refine Zmu rfl (fun _=>rfl) rfl rfl ?_
  refine Zbv rfl (And.intro (show 0+3≤3 by decide) (And.intro (show 0+1≤1 by decide) (And.intro (show 0+1≤1 by decide) ((h3v).mono ?_))))
  rintro _ rfl
  refine ZaE rfl rfl ?_
  refine Zam ?_
  repeat (first|refine Zaf ?_|refine Zac ?_)
  refine And.intro (fun h=>by first|(cases h;done)|exact(nf h vv).elim) (fun _=> ?_)
  refine Za8 (Zbo Zal ?_)
  refine((Zv3 a b r S C e f E F (by omega) (fun x hx=>by have:=(v3 x hx).1;omega) hs hc).ent (Za6 ⟨rfl,rfl,rfl,rfl,rfl,rfl,rfl,rS,rfl,rfl,rfl,rC,rfl,rfl,rfl,rfl,rfl,rfl,rfl,rfl,rfl,rfl,rfl,rfl,trivial⟩)).mono ?_
  rintro _ _ _ ⟨rfl,Z,rfl,rfl⟩
  refine Za8 (Zbo Zal ?_)
  refine Zbo Zal ?_
  rfl
def c9 (a b:List (List (List UInt8))) (r:List UInt8) (S C:SV) (e f E:Int):TM:=[(0, .v (.l (.l .s)) a),(1, .v (.l (.l .s)) b),(2, .v .s r),(9,S),(10, .v (.i .i64) e),(11,C),(12, .v (.i .i64) f),(19, .v (.i .i64) E)]
set_option maxHeartbeats 16000000 in
theorem Zs4 (a b:List (List (List UInt8))) (r:List UInt8) (S C:SV) (e f E:Int) (ha: ∀x∈a,∀s∈x,s.length≤9223372036854775806) (hr:r.length≤9223372036854775806) (hs:SumH a b r S e E) (hc:ScaH a b r C f (ZfR (ZcG a) (ZaP r))):
 CodeOK Tryz.prog Zat 0 cxS (ZjL 9 (ZbP Tryz.f3)) (c9 a b r S C e f E) [] Zr8:=by
 have cA:=Zdl a ha
 have cR:=Ziv r hr
 have gV:=Zlu (ZcG a) (ZaP r)
 obtain⟨F,eF⟩: ∃x,ZfR (ZcG a) (ZaP r)=x:=⟨_,rfl⟩
 rw[eF]at gV hc
 have hz0:decide ((0:Int)<0)=false:=rfl
 refine Za8 (Zbo Zal ?_)
 refine cA.mono ?_
 rintro _ rfl
 refine cR.mono ?_
 rintro _ rfl
 refine And.intro (show 0+2≤2 by decide) ?_
 refine gV.mono ?_
 rintro _ rfl
 refine Za8 (Zbo Zal ?_)
 rcases hs with⟨hE,rfl,rfl⟩|⟨rfl,rS,hs⟩
 ·have hEt:(!decide (e=0))=true:=by rw[hE];rfl
  have hee:(!decide (e=e))=false:=by rw[decide_eq_true rfl];rfl
  rcases hc with⟨hF,rfl,rfl⟩|⟨rfl,rC,hc⟩
  ·have hFt:(!decide (f=0))=true:=by rw[hF];rfl
   have hff:(!decide (f=f))=false:=by rw[decide_eq_true rfl];rfl
   repeat (first|refine Zaj ?_|refine Zaf ?_|refine Zac ?_)
   first|refine Zab (Zaa (id:=25) rfl ?_)|refine Zab (Zab (Zaa (id:=25) rfl ?_))|refine Zaa (id:=25) rfl ?_|refine Zab (Zad rfl (Zab (Zaa (id:=25) rfl ?_)))|refine Zad rfl (Zab (Zaa (id:=25) rfl ?_))
   refine Zah rfl (fun _=>rfl) rfl rfl ?_
   refine Zah rfl (fun _=>rfl) rfl rfl ?_
   refine Zah rfl (fun _=>rfl) rfl rfl ?_
   refine Zae rfl rfl rfl hEt (fun _=>rfl) rfl rfl ?_
   refine Zae rfl rfl rfl hEt (fun _=>rfl) rfl rfl ?_
   refine Zae rfl rfl rfl hEt (fun _=>rfl) rfl rfl ?_
   refine Zae rfl rfl rfl hEt (fun _=>rfl) rfl rfl ?_
   refine Zae rfl rfl rfl hee (fun _=>rfl) rfl rfl ?_
   refine Zae rfl rfl rfl hee (fun _=>rfl) rfl rfl ?_
   refine Zae rfl rfl rfl hee (fun _=>rfl) rfl rfl ?_
   refine ZaZ rfl rfl rfl hEt rfl rfl hee rfl rfl rfl ?_
   refine ZaG rfl rfl rfl hEt rfl rfl rfl ?_
   refine Zah rfl (fun _=>rfl) rfl rfl ?_
   refine Zae rfl rfl rfl hz0 (fun _=>rfl) rfl rfl ?_
   refine Zae rfl rfl rfl hz0 (fun _=>rfl) rfl rfl ?_
   refine Zae rfl rfl rfl hz0 (fun _=>rfl) rfl rfl ?_
   refine Zae rfl rfl rfl hFt (fun _=>rfl) rfl rfl ?_
   refine Zae rfl rfl rfl hFt (fun _=>rfl) rfl rfl ?_
   refine Zae rfl rfl rfl hFt (fun _=>rfl) rfl rfl ?_
   refine Zae rfl rfl rfl hFt (fun _=>rfl) rfl rfl ?_
   refine Zae rfl rfl rfl hff (fun _=>rfl) rfl rfl ?_
   refine Zae rfl rfl rfl hff (fun _=>rfl) rfl rfl ?_
   refine Zae rfl rfl rfl hff (fun _=>rfl) rfl rfl ?_
   refine ZaZ rfl rfl rfl hFt rfl rfl hff rfl rfl rfl ?_
   refine ZbS rfl rfl rfl hz0 rfl rfl hFt rfl rfl rfl ?_
   refine Zax rfl rfl rfl hz0 rfl rfl rfl ?_
   refine Zam ?_
   repeat (first|refine Zaf ?_|refine Zac ?_)
   refine And.intro (fun h=>by first|(cases h;done)|exact(nf h hz0).elim) (fun _=> ?_)
   exact(ZnM a b r .nils .nils e f e f rfl rfl (.inr (.inl hE)) (.inr (.inl hF))).ent (Za6 ⟨rfl,rfl,rfl,rfl,rfl,rfl,rfl,rfl,rfl,rfl,rfl,rfl,rfl,rfl,rfl,rfl,rfl,rfl,trivial⟩)
  ·have _h:=hz0
   repeat (first|refine Zaj ?_|refine Zaf ?_|refine Zac ?_)
   first|refine Zab (Zaa (id:=25) rfl ?_)|refine Zab (Zab (Zaa (id:=25) rfl ?_))|refine Zaa (id:=25) rfl ?_|refine Zab (Zad rfl (Zab (Zaa (id:=25) rfl ?_)))|refine Zad rfl (Zab (Zaa (id:=25) rfl ?_))
   refine Zah rfl (fun _=>rfl) rfl rfl ?_
   refine Zah rfl (fun _=>rfl) rfl rfl ?_
   refine Zah rfl (fun _=>rfl) rfl rfl ?_
   refine Zae rfl rfl rfl hEt (fun _=>rfl) rfl rfl ?_
   refine Zae rfl rfl rfl hEt (fun _=>rfl) rfl rfl ?_
   refine Zae rfl rfl rfl hEt (fun _=>rfl) rfl rfl ?_
   refine Zae rfl rfl rfl hEt (fun _=>rfl) rfl rfl ?_
   refine Zae rfl rfl rfl hee (fun _=>rfl) rfl rfl ?_
   refine Zae rfl rfl rfl hee (fun _=>rfl) rfl rfl ?_
   refine Zae rfl rfl rfl hee (fun _=>rfl) rfl rfl ?_
   refine ZaZ rfl rfl rfl hEt rfl rfl hee rfl rfl rfl ?_
   refine ZaG rfl rfl rfl hEt rfl rfl rfl ?_
   refine Zah rfl (fun _=>rfl) rfl rfl ?_
   refine Zae rfl rfl rfl hz0 (fun _=>rfl) rfl rfl ?_
   refine Zae rfl rfl rfl hz0 (fun _=>rfl) rfl rfl ?_
   refine Zae rfl rfl rfl hz0 (fun _=>rfl) rfl rfl ?_
   refine Zag rfl rfl rfl rfl rfl rfl ?_
   refine Zag rfl rfl rfl rfl rfl rfl ?_
   refine Zag rfl rfl rfl rfl rfl rfl ?_
   refine Zag rfl rfl rfl rfl rfl rfl ?_
   refine Zai rfl rfl rfl rfl rfl ?_
   refine Zai rfl rfl rfl rfl rfl ?_
   refine Zai rfl rfl rfl rfl rfl ?_
   refine Zag rfl rfl rfl rfl rfl rfl ?_
   refine ZaZ rfl rfl rfl hz0 rfl rfl rfl rfl rfl rfl ?_
   refine Zax rfl rfl rfl hz0 rfl rfl rfl ?_
   refine Zam ?_
   repeat (first|refine Zaf ?_|refine Zac ?_)
   refine And.intro (fun h=>by first|(cases h;done)|exact(nf h hz0).elim) (fun _=> ?_)
   exact(ZnM a b r .nils C e f e 0 rfl rC (.inr (.inl hE)) hc).ent (Za6 ⟨rfl,rfl,rfl,rfl,rfl,rfl,rfl,rfl,rfl,rfl,rfl,rC,rfl,rfl,rfl,rfl,rfl,rfl,trivial⟩)
 ·rcases hc with⟨hF,rfl,rfl⟩|⟨rfl,rC,hc⟩
  ·have hFt:(!decide (f=0))=true:=by rw[hF];rfl
   have hff:(!decide (f=f))=false:=by rw[decide_eq_true rfl];rfl
   repeat (first|refine Zaj ?_|refine Zaf ?_|refine Zac ?_)
   first|refine Zab (Zaa (id:=25) rfl ?_)|refine Zab (Zab (Zaa (id:=25) rfl ?_))|refine Zaa (id:=25) rfl ?_|refine Zab (Zad rfl (Zab (Zaa (id:=25) rfl ?_)))|refine Zad rfl (Zab (Zaa (id:=25) rfl ?_))
   refine Zah rfl (fun _=>rfl) rfl rfl ?_
   refine Zah rfl (fun _=>rfl) rfl rfl ?_
   refine Zah rfl (fun _=>rfl) rfl rfl ?_
   refine Zag rfl rfl rfl rfl rfl rfl ?_
   refine Zag rfl rfl rfl rfl rfl rfl ?_
   refine Zag rfl rfl rfl rfl rfl rfl ?_
   refine Zag rfl rfl rfl rfl rfl rfl ?_
   refine Zai rfl rfl rfl rfl rfl ?_
   refine Zai rfl rfl rfl rfl rfl ?_
   refine Zai rfl rfl rfl rfl rfl ?_
   refine Zag rfl rfl rfl rfl rfl rfl ?_
   refine Zax rfl rfl rfl rfl rfl rfl rfl ?_
   refine Zah rfl (fun _=>rfl) rfl rfl ?_
   refine Zae rfl rfl rfl rfl (fun _=>rfl) rfl rfl ?_
   refine Zae rfl rfl rfl rfl (fun _=>rfl) rfl rfl ?_
   refine Zae rfl rfl rfl rfl (fun _=>rfl) rfl rfl ?_
   refine Zae rfl rfl rfl hFt (fun _=>rfl) rfl rfl ?_
   refine Zae rfl rfl rfl hFt (fun _=>rfl) rfl rfl ?_
   refine Zae rfl rfl rfl hFt (fun _=>rfl) rfl rfl ?_
   refine Zae rfl rfl rfl hFt (fun _=>rfl) rfl rfl ?_
   refine Zae rfl rfl rfl hff (fun _=>rfl) rfl rfl ?_
   refine Zae rfl rfl rfl hff (fun _=>rfl) rfl rfl ?_
   refine Zae rfl rfl rfl hff (fun _=>rfl) rfl rfl ?_
   refine ZaZ rfl rfl rfl hFt rfl rfl hff rfl rfl rfl ?_
   refine ZbS rfl rfl rfl rfl rfl rfl hFt rfl rfl rfl ?_
   refine Zax rfl rfl rfl rfl rfl rfl rfl ?_
   refine Zam ?_
   repeat (first|refine Zaf ?_|refine Zac ?_)
   refine And.intro (fun h=>by first|(cases h;done)|exact(nf h hz0).elim) (fun _=> ?_)
   exact(ZnM a b r S .nils e f 0 f rS rfl hs (.inr (.inl hF))).ent (Za6 ⟨rfl,rfl,rfl,rfl,rfl,rfl,rfl,rS,rfl,rfl,rfl,rfl,rfl,rfl,rfl,rfl,rfl,rfl,trivial⟩)
  ·have _h:=hz0
   repeat (first|refine Zaj ?_|refine Zaf ?_|refine Zac ?_)
   first|refine Zab (Zaa (id:=25) rfl ?_)|refine Zab (Zab (Zaa (id:=25) rfl ?_))|refine Zaa (id:=25) rfl ?_|refine Zab (Zad rfl (Zab (Zaa (id:=25) rfl ?_)))|refine Zad rfl (Zab (Zaa (id:=25) rfl ?_))
   refine Zah rfl (fun _=>rfl) rfl rfl ?_
   refine Zah rfl (fun _=>rfl) rfl rfl ?_
   refine Zah rfl (fun _=>rfl) rfl rfl ?_
   refine Zag rfl rfl rfl rfl rfl rfl ?_
   refine Zag rfl rfl rfl rfl rfl rfl ?_
   refine Zag rfl rfl rfl rfl rfl rfl ?_
   refine Zag rfl rfl rfl rfl rfl rfl ?_
   refine Zai rfl rfl rfl rfl rfl ?_
   refine Zai rfl rfl rfl rfl rfl ?_
   refine Zai rfl rfl rfl rfl rfl ?_
   refine Zag rfl rfl rfl rfl rfl rfl ?_
   refine Zax rfl rfl rfl rfl rfl rfl rfl ?_
   refine Zah rfl (fun _=>rfl) rfl rfl ?_
   refine Zae rfl rfl rfl rfl (fun _=>rfl) rfl rfl ?_
   refine Zae rfl rfl rfl rfl (fun _=>rfl) rfl rfl ?_
   refine Zae rfl rfl rfl rfl (fun _=>rfl) rfl rfl ?_
   refine Zag rfl rfl rfl rfl rfl rfl ?_
   refine Zag rfl rfl rfl rfl rfl rfl ?_
   refine Zag rfl rfl rfl rfl rfl rfl ?_
   refine Zag rfl rfl rfl rfl rfl rfl ?_
   refine Zai rfl rfl rfl rfl rfl ?_
   refine Zai rfl rfl rfl rfl rfl ?_
   refine Zai rfl rfl rfl rfl rfl ?_
   refine Zag rfl rfl rfl rfl rfl rfl ?_
   refine ZaZ rfl rfl rfl rfl rfl rfl rfl rfl rfl rfl ?_
   refine Zax rfl rfl rfl rfl rfl rfl rfl ?_
   refine Zam ?_
   repeat (first|refine Zaf ?_|refine Zac ?_)
   refine And.intro (fun h=>by first|(cases h;done)|exact(nf h hz0).elim) (fun _=> ?_)
   exact(ZnM a b r S C e f 0 0 rS rC hs hc).ent (Za6 ⟨rfl,rfl,rfl,rfl,rfl,rfl,rfl,rS,rfl,rfl,rfl,rC,rfl,rfl,rfl,rfl,rfl,rfl,trivial⟩)
def c7 (a b:List (List (List UInt8))) (r:List UInt8) (S C:SV) (e f:Int):TM:=[(0, .v (.l (.l .s)) a),(1, .v (.l (.l .s)) b),(2, .v .s r),(9,S),(10, .v (.i .i64) e),(11,C),(12, .v (.i .i64) f)]
set_option maxHeartbeats 16000000 in
theorem ZwJ (a b:List (List (List UInt8))) (r:List UInt8) (S C:SV) (e f:Int) (ha: ∀x∈a,∀s∈x,s.length≤9223372036854775806) (hb: ∀x∈b,∀s∈x,s.length≤9223372036854775806) (hr:r.length≤9223372036854775806) (hs:SumH a b r S e (ZsL a b)) (hc:ScaH a b r C f (ZfR (ZcG a) (ZaP r))) (rS:ZgG 0 (ZdY S)=true) (rC:ZgG 0 (ZdY C)=true):
 CodeOK Tryz.prog Zat 0 cxS (ZjL 7 (ZbP Tryz.f3)) (c7 a b r S C e f) [] Zr8:=by
 have cA:=Zdl a ha
 have cB:=Zdl b hb
 have w1:=ZmX a
 have w2:=ZmX b
 have gV:=Zlu (ZcG a) (ZcG b)
 have hE:ZsL a b=match decide (ZfR (ZcG a) (ZcG b)=0)with|false=>ZfR (ZcG a) (ZcG b)|true=>match !decide ((a.length:Int)=(b.length:Int))with|true=>3|false=>match !decide (((wid a:Nat):Int)=((wid b:Nat):Int))with|true=>3|false=>0:=rfl
 obtain⟨G,eG⟩: ∃x,ZfR (ZcG a) (ZcG b)=x:=⟨_,rfl⟩
 rw[eG]at gV hE
 obtain⟨E,eE⟩: ∃x,ZsL a b=x:=⟨_,rfl⟩
 rw[eE]at hs hE
 refine Za8 (Zbo Zal ?_)
 refine cA.mono ?_
 rintro _ rfl
 refine cB.mono ?_
 rintro _ rfl
 refine And.intro (show 0+2≤2 by decide) ?_
 refine gV.mono ?_
 rintro _ rfl
 refine Za8 (Zbo Zal ?_)
 cases hG:decide (G=0)with
 |false=>
  rw[hG]at hE
  have hE:E=G:=hE
  repeat (first|refine Zaj ?_|refine Zaf ?_|refine Zac ?_)
  first|refine Zab (Zaa (id:=22) rfl ?_)|refine Zab (Zab (Zaa (id:=22) rfl ?_))|refine Zaa (id:=22) rfl ?_|refine Zab (Zad rfl (Zab (Zaa (id:=22) rfl ?_)))|refine Zad rfl (Zab (Zaa (id:=22) rfl ?_))
  refine Zah rfl (fun _=>rfl) rfl rfl ?_
  refine Zah rfl (fun _=>rfl) rfl rfl ?_
  refine Zah rfl (fun _=>rfl) rfl rfl ?_
  refine Zag rfl rfl rfl hG rfl rfl ?_
  refine Zag rfl rfl rfl hG rfl rfl ?_
  refine Zag rfl rfl rfl hG rfl rfl ?_
  refine Zag rfl rfl rfl hG rfl rfl ?_
  refine Zag rfl rfl rfl hG rfl rfl ?_
  refine Zag rfl rfl rfl hG rfl rfl ?_
  refine Zai rfl rfl rfl rfl rfl ?_
  refine Zai rfl rfl rfl rfl rfl ?_
  refine Zai rfl rfl rfl rfl rfl ?_
  refine Zai rfl rfl rfl rfl rfl ?_
  refine Zai rfl rfl rfl rfl rfl ?_
  refine Zag rfl rfl rfl hG rfl rfl ?_
  refine Zax rfl rfl rfl hG rfl rfl rfl ?_
  refine Zam ?_
  repeat (first|refine Zaf ?_|refine Zac ?_)
  refine And.intro (fun h=>by first|(cases h;done)|exact(nf h hG).elim) (fun _=> ?_)
  exact(Zs4 a b r S C e f E ha hr hs hc).ent (Za6 ⟨rfl,rfl,rfl,rfl,rfl,rfl,rfl,rS,rfl,rfl,rfl,rC,rfl,rfl,congrArg (fun x=>some (SV.v (.i .i64) x)) hE.symm,rfl,trivial⟩)
 |true=>
  rw[hG]at hE
  simp only at hE
  have hG0:G=0:=of_decide_eq_true hG
  cases h1:(!decide ((a.length:Int)=(b.length:Int)))with
  |true=>
   rw[h1]at hE
   have hE:E=3:=hE
   repeat (first|refine Zaj ?_|refine Zaf ?_|refine Zac ?_)
   first|refine Zab (Zaa (id:=22) rfl ?_)|refine Zab (Zab (Zaa (id:=22) rfl ?_))|refine Zaa (id:=22) rfl ?_|refine Zab (Zad rfl (Zab (Zaa (id:=22) rfl ?_)))|refine Zad rfl (Zab (Zaa (id:=22) rfl ?_))
   refine Zah rfl (fun _=>rfl) rfl rfl ?_
   refine Zah rfl (fun _=>rfl) rfl rfl ?_
   refine Zah rfl (fun _=>rfl) rfl rfl ?_
   refine Zae rfl rfl rfl hG (fun _=>rfl) rfl rfl ?_
   refine Zae rfl rfl rfl hG (fun _=>rfl) rfl rfl ?_
   refine Zae rfl rfl rfl hG (fun _=>rfl) rfl rfl ?_
   refine Zae rfl rfl rfl hG (fun _=>rfl) rfl rfl ?_
   refine Zae rfl rfl rfl hG (fun _=>rfl) rfl rfl ?_
   refine Zae rfl rfl rfl hG (fun _=>rfl) rfl rfl ?_
   refine Zag rfl rfl rfl h1 rfl rfl ?_
   refine Zag rfl rfl rfl h1 rfl rfl ?_
   refine Zag rfl rfl rfl h1 rfl rfl ?_
   refine Zag rfl rfl rfl h1 rfl rfl ?_
   refine Zag rfl rfl rfl h1 rfl rfl ?_
   refine ZbS rfl rfl rfl hG rfl rfl h1 rfl rfl rfl ?_
   refine ZaG rfl rfl rfl hG rfl rfl rfl ?_
   refine Zam ?_
   repeat (first|refine Zaf ?_|refine Zac ?_)
   refine And.intro (fun _=> ?_) (fun h=>by first|(cases h;done)|exact(nf h1 h).elim)
   exact(Zs4 a b r S C e f E ha hr hs hc).ent (Za6 ⟨rfl,rfl,rfl,rfl,rfl,rfl,rfl,rS,rfl,rfl,rfl,rC,rfl,rfl,congrArg (fun x=>some (SV.v (.i .i64) x)) hE.symm,rfl,trivial⟩)
  |false=>
   rw[h1]at hE
   simp only at hE
   cases h2:(!decide (((wid a:Nat):Int)=((wid b:Nat):Int)))with
   |true=>
    rw[h2]at hE
    have hE:E=3:=hE
    repeat (first|refine Zaj ?_|refine Zaf ?_|refine Zac ?_)
    first|refine Zab (Zaa (id:=22) rfl ?_)|refine Zab (Zab (Zaa (id:=22) rfl ?_))|refine Zaa (id:=22) rfl ?_|refine Zab (Zad rfl (Zab (Zaa (id:=22) rfl ?_)))|refine Zad rfl (Zab (Zaa (id:=22) rfl ?_))
    refine Zah rfl (fun _=>rfl) rfl rfl ?_
    refine Zah rfl (fun _=>rfl) rfl rfl ?_
    refine Zah rfl (fun _=>rfl) rfl rfl ?_
    refine Zae rfl rfl rfl hG (fun _=>rfl) rfl rfl ?_
    refine Zae rfl rfl rfl hG (fun _=>rfl) rfl rfl ?_
    refine Zae rfl rfl rfl hG (fun _=>rfl) rfl rfl ?_
    refine Zae rfl rfl rfl hG (fun _=>rfl) rfl rfl ?_
    refine Zae rfl rfl rfl hG (fun _=>rfl) rfl rfl ?_
    refine Zae rfl rfl rfl hG (fun _=>rfl) rfl rfl ?_
    refine Zae rfl rfl rfl h1 (fun _=>rfl) rfl rfl ?_
    refine Za9 rfl rfl rfl h1 ((w1).mono ?_)
    rintro _ rfl
    refine ZaE rfl rfl ?_
    refine Zae rfl rfl rfl h1 (fun _=>rfl) rfl rfl ?_
    refine Za9 rfl rfl rfl h1 ((w2).mono ?_)
    rintro _ rfl
    refine ZaE rfl rfl ?_
    refine Zae rfl rfl rfl h1 (fun _=>rfl) rfl rfl ?_
    refine ZaZ rfl rfl rfl hG rfl rfl h1 rfl rfl rfl ?_
    refine ZaG rfl rfl rfl hG rfl rfl rfl ?_
    refine Zam ?_
    repeat (first|refine Zaf ?_|refine Zac ?_)
    refine And.intro (fun _=> ?_) (fun h=>by first|(cases h;done)|exact(nf h2 h).elim)
    exact(Zs4 a b r S C e f E ha hr hs hc).ent (Za6 ⟨rfl,rfl,rfl,rfl,rfl,rfl,rfl,rS,rfl,rfl,rfl,rC,rfl,rfl,congrArg (fun x=>some (SV.v (.i .i64) x)) hE.symm,rfl,trivial⟩)
   |false=>
    rw[h2]at hE
    have hE:E=0:=hE
    repeat (first|refine Zaj ?_|refine Zaf ?_|refine Zac ?_)
    first|refine Zab (Zaa (id:=22) rfl ?_)|refine Zab (Zab (Zaa (id:=22) rfl ?_))|refine Zaa (id:=22) rfl ?_|refine Zab (Zad rfl (Zab (Zaa (id:=22) rfl ?_)))|refine Zad rfl (Zab (Zaa (id:=22) rfl ?_))
    refine Zah rfl (fun _=>rfl) rfl rfl ?_
    refine Zah rfl (fun _=>rfl) rfl rfl ?_
    refine Zah rfl (fun _=>rfl) rfl rfl ?_
    refine Zae rfl rfl rfl hG (fun _=>rfl) rfl rfl ?_
    refine Zae rfl rfl rfl hG (fun _=>rfl) rfl rfl ?_
    refine Zae rfl rfl rfl hG (fun _=>rfl) rfl rfl ?_
    refine Zae rfl rfl rfl hG (fun _=>rfl) rfl rfl ?_
    refine Zae rfl rfl rfl hG (fun _=>rfl) rfl rfl ?_
    refine Zae rfl rfl rfl hG (fun _=>rfl) rfl rfl ?_
    refine Zae rfl rfl rfl h1 (fun _=>rfl) rfl rfl ?_
    refine Za9 rfl rfl rfl h1 ((w1).mono ?_)
    rintro _ rfl
    refine ZaE rfl rfl ?_
    refine Zae rfl rfl rfl h1 (fun _=>rfl) rfl rfl ?_
    refine Za9 rfl rfl rfl h1 ((w2).mono ?_)
    rintro _ rfl
    refine ZaE rfl rfl ?_
    refine Zae rfl rfl rfl h1 (fun _=>rfl) rfl rfl ?_
    refine ZaZ rfl rfl rfl hG rfl rfl h1 rfl rfl rfl ?_
    refine ZaG rfl rfl rfl hG rfl rfl rfl ?_
    refine Zam ?_
    repeat (first|refine Zaf ?_|refine Zac ?_)
    refine And.intro (fun h=>by first|(cases h;done)|exact(nf h h2).elim) (fun _=> ?_)
    exact(Zs4 a b r S C e f E ha hr hs hc).ent (Za6 ⟨rfl,rfl,rfl,rfl,rfl,rfl,rfl,rS,rfl,rfl,rfl,rC,rfl,rfl,congrArg (fun x=>some (SV.v (.i .i64) x)) (hG0.trans hE.symm),rfl,trivial⟩)
theorem SumH.r {a b:List (List (List UInt8))} {r:List UInt8} {S:SV} {e E:Int} (h:SumH a b r S e E):ZgG 0 (ZdY S)=true:=by
 rcases h with⟨_,rfl,_⟩|⟨_,h,_⟩
 ·rfl
 ·exact h
theorem ScaH.r {a b:List (List (List UInt8))} {r:List UInt8} {S:SV} {e E:Int} (h:ScaH a b r S e E):ZgG 0 (ZdY S)=true:=by
 rcases h with⟨_,rfl,_⟩|⟨_,h,_⟩
 ·rfl
 ·exact h
set_option maxHeartbeats 16000000 in
theorem Zlw (a b:List (List (List UInt8))) (r:List UInt8) (n:Int) (ha: ∀x∈a,∀s∈x,s.length≤9223372036854775806) (hb: ∀x∈b,∀s∈x,s.length≤9223372036854775806) (hr:r.length≤9223372036854775806):PureOK Tryz.prog Zat 3 [.v (.l (.l .s)) a, .v (.l (.l .s)) b, .v .s r, .v (.i .i64) n] (fun V=>V= .v .b true):=by
 refine Zit (fn:=Tryz.f3) (code:=ZbP Tryz.f3) Zal (by kernel_rfl) rfl Tryz.func3 (by kernel_rfl) (Nat.le_of_ble_eq_true (by kernel_rfl)) ?_
 show CodeOK Tryz.prog Zat 0 cxS (ZbP Tryz.f3) [(0, .v (.l (.l .s)) a),(1, .v (.l (.l .s)) b),(2, .v .s r),(3, .v (.i .i64) n)] [] Zr8
 have hz0:decide ((0:Int)<0)=false:=rfl
 refine Za8 (Zbo Zal ?_)
 refine Za8 (Zbo Zal ?_)
 refine Zks.mono ?_
 rintro _ rfl
 refine And.intro (fun h=>nomatch h) (fun _=> ?_)
 refine Za8 (Zbo Zal ?_)
 refine(Zv1 a b ha hb).mono ?_
 intro V1 h1
 obtain⟨S,e,rfl,hs⟩:=Zsi r h1
 have rS:=hs.r
 refine Za8 (Zbo Zal ?_)
 refine(Ztc a r ha hr).mono ?_
 intro V2 h2
 obtain⟨C,f,rfl,hc⟩:=Zs9 b h2
 have rC:=hc.r
 refine Za8 (Zbo Zal ?_)
 by_cases hn:n<0∨40<n
 ·refine(ZlX n hn).mono ?_
  rintro _ rfl
  refine Za8 (Zbo Zal ?_)
  have hb:(decide (n<0)=true)∨(decide (n<0)=false∧decide (40<n)=true):=by
   by_cases h:n<0
   ·exact .inl (decide_eq_true h)
   ·exact .inr ⟨decide_eq_false h,decide_eq_true (hn.resolve_left h)⟩
  rcases hb with b1|⟨b1,b2⟩
  repeat (first|refine Zaj ?_|refine Zaf ?_|refine Zac ?_)
  first|refine Zab (Zaa (id:=6) rfl ?_)|refine Zab (Zab (Zaa (id:=6) rfl ?_))|refine Zaa (id:=6) rfl ?_|refine Zab (Zad rfl (Zab (Zaa (id:=6) rfl ?_)))|refine Zad rfl (Zab (Zaa (id:=6) rfl ?_))
  refine Zah rfl (fun _=>rfl) rfl rfl ?_
  refine Zah rfl (fun _=>rfl) rfl rfl ?_
  refine Zah rfl (fun _=>rfl) rfl rfl ?_
  refine Zag rfl rfl rfl b1 rfl rfl ?_
  refine Zag rfl rfl rfl b1 rfl rfl ?_
  refine ZaG rfl rfl rfl b1 rfl rfl rfl ?_
  refine Zam ?_
  repeat (first|refine Zaf ?_|refine Zac ?_)
  refine And.intro (fun _=> ?_) (fun h=>by first|(cases h;done)|exact(nf b1 h).elim)
  rotate_left 1
  repeat (first|refine Zaj ?_|refine Zaf ?_|refine Zac ?_)
  first|refine Zab (Zaa (id:=6) rfl ?_)|refine Zab (Zab (Zaa (id:=6) rfl ?_))|refine Zaa (id:=6) rfl ?_|refine Zab (Zad rfl (Zab (Zaa (id:=6) rfl ?_)))|refine Zad rfl (Zab (Zaa (id:=6) rfl ?_))
  refine Zah rfl (fun _=>rfl) rfl rfl ?_
  refine Zah rfl (fun _=>rfl) rfl rfl ?_
  refine Zah rfl (fun _=>rfl) rfl rfl ?_
  refine Zae rfl rfl rfl b1 (fun _=>rfl) rfl rfl ?_
  refine Zae rfl rfl rfl b1 (fun _=>rfl) rfl rfl ?_
  refine Zax rfl rfl rfl b1 rfl rfl rfl ?_
  refine Zam ?_
  repeat (first|refine Zaf ?_|refine Zac ?_)
  refine And.intro (fun _=> ?_) (fun h=>by first|(cases h;done)|exact(nf b2 h).elim)
  rotate_left 1
  all_goals
   repeat (first|refine Zaj ?_|refine Zaf ?_|refine Zac ?_)
   first|refine Zab (Zaa (id:=7) rfl ?_)|refine Zab (Zab (Zaa (id:=7) rfl ?_))|refine Zaa (id:=7) rfl ?_|refine Zab (Zad rfl (Zab (Zaa (id:=7) rfl ?_)))|refine Zad rfl (Zab (Zaa (id:=7) rfl ?_))
   refine Zah rfl (fun _=>rfl) rfl rfl ?_
   refine Zah rfl (fun _=>rfl) rfl rfl ?_
   refine Zah rfl (fun _=>rfl) rfl rfl ?_
   refine Zae rfl rfl rfl rfl (fun _=>rfl) rfl rfl ?_
   refine Zae rfl rfl rfl rfl (fun _=>rfl) rfl rfl ?_
   refine Zae rfl rfl rfl rfl (fun _=>rfl) rfl rfl ?_
   refine Zax rfl rfl rfl rfl rfl rfl rfl ?_
   refine Zam ?_
   repeat (first|refine Zaf ?_|refine Zac ?_)
   refine And.intro (fun h=>by first|(cases h;done)|exact(nf h hz0).elim) (fun _=> ?_)
   refine Za8 (Zbo Zal ?_)
   refine Zaw Zal rfl (fun(_:Unit)=> [(0, .v (.l (.l .s)) a),(1, .v (.l (.l .s)) b),(2, .v .s r),(9,S),(10, .v (.i .i64) e),(11,C),(12, .v (.i .i64) f),(66, .v (.i .i64) (0:Int)),(67, .v (.i .i64) (0:Int))]) (fun _=> []) (fun _=>True) (fun _=>0) ?_ () trivial (Za6 ⟨rfl,rfl,rfl,rfl,rfl,rfl,rfl,rS,rfl,rfl,rfl,rC,rfl,rfl,rfl,rfl,rfl,rfl,trivial⟩)
   intro _ _
   refine And.intro (fun h=>nomatch h) (fun _=> ?_)
   exact(ZwJ a b r S C e f ha ‹_› hr hs hc rS rC).ent (Za6 ⟨rfl,rfl,rfl,rfl,rfl,rfl,rfl,rS,rfl,rfl,rfl,rC,rfl,rfl,trivial⟩)
 ·have hn0: ¬n<0:=fun h=>hn (.inl h)
  have hn1: ¬40<n:=fun h=>hn (.inr h)
  obtain⟨m,rfl⟩: ∃m:Nat,n=(m:Int):=⟨n.toNat,by omega⟩
  have b1:=decide_eq_false hn0
  have b2:=decide_eq_false hn1
  have hm:m≤40:=by omega
  have hlen:(!decide (((idP m m).length:Int)=(m:Int)))=false:=by rw[ZeB,decide_eq_true rfl];rfl
  refine(Zmr m hm).mono ?_
  rintro _ rfl
  refine Za8 (Zbo Zal ?_)
  repeat (first|refine Zaj ?_|refine Zaf ?_|refine Zac ?_)
  first|refine Zab (Zaa (id:=6) rfl ?_)|refine Zab (Zab (Zaa (id:=6) rfl ?_))|refine Zaa (id:=6) rfl ?_|refine Zab (Zad rfl (Zab (Zaa (id:=6) rfl ?_)))|refine Zad rfl (Zab (Zaa (id:=6) rfl ?_))
  refine Zah rfl (fun _=>rfl) rfl rfl ?_
  refine Zah rfl (fun _=>rfl) rfl rfl ?_
  refine Zah rfl (fun _=>rfl) rfl rfl ?_
  refine Zae rfl rfl rfl b1 (fun _=>rfl) rfl rfl ?_
  refine Zae rfl rfl rfl b1 (fun _=>rfl) rfl rfl ?_
  refine Zax rfl rfl rfl b1 rfl rfl rfl ?_
  refine Zam ?_
  repeat (first|refine Zaf ?_|refine Zac ?_)
  refine And.intro (fun h=>by first|(cases h;done)|exact(nf h b2).elim) (fun _=> ?_)
  repeat (first|refine Zaj ?_|refine Zaf ?_|refine Zac ?_)
  first|refine Zab (Zaa (id:=9) rfl ?_)|refine Zab (Zab (Zaa (id:=9) rfl ?_))|refine Zaa (id:=9) rfl ?_|refine Zab (Zad rfl (Zab (Zaa (id:=9) rfl ?_)))|refine Zad rfl (Zab (Zaa (id:=9) rfl ?_))
  refine Zah rfl (fun _=>rfl) rfl rfl ?_
  refine Zah rfl (fun _=>rfl) rfl rfl ?_
  refine Zah rfl (fun _=>rfl) rfl rfl ?_
  refine Zae rfl rfl rfl rfl (fun _=>rfl) rfl rfl ?_
  refine Zae rfl rfl rfl rfl (fun _=>rfl) rfl rfl ?_
  refine Zae rfl rfl rfl rfl (fun _=>rfl) rfl rfl ?_
  refine Zae rfl rfl rfl rfl (fun _=>rfl) rfl rfl ?_
  refine Zax rfl rfl rfl rfl rfl rfl rfl ?_
  refine Zam ?_
  repeat (first|refine Zaf ?_|refine Zac ?_)
  refine And.intro (fun h=>by first|(cases h;done)|exact(nf h hlen).elim) (fun _=> ?_)
  refine Za8 (Zbo Zal ?_)
  refine((Zwt m _ _ _ S C e f hm).ent (Za6 ⟨rfl,rfl,rfl,rfl,rfl,rfl,rfl,rfl,rfl,rS,rfl,rfl,rfl,rC,rfl,rfl,rfl,rfl,rfl,rfl,rfl,rfl,trivial⟩)).mono ?_
  rintro _ _ _ ⟨rfl,Z,rfl,rfl⟩
  exact(ZwJ a b r S C e f ha hb hr hs hc rS rC).ent (Za6 ⟨rfl,rfl,rfl,rfl,rfl,rfl,rfl,rS,rfl,rfl,rfl,rC,rfl,rfl,trivial⟩)
end Go.Proofs.YtdnodlkdndfplaaGreatDoor
