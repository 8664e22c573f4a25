/-
 Problems: problemError, simplex.Check.
-/
import Derived.Test.YtdnodlkdndfplaaGreatDoorDm
set_option linter.constructorNameAsVariable false
set_option linter.unusedSimpArgs false
set_option linter.unusedVariables false
namespace Go.Proofs.YtdnodlkdndfplaaGreatDoor
open Go.Am Go.Tx Dv Go.Lib
set_option maxRecDepth 100000
noncomputable def ZkC (A:List (List (List UInt8))) (B C:List (List UInt8)):Int:=
 match decide ((40:Int)<(A.length:Int))with
 |true=>2
 |false=>match decide ((40:Int)<(C.length:Int))with
  |true=>2
  |false=>match decide (Zm9 [Zm0 A,Zcn B,Zcn C]=0)with
   |false=>Zm9 [Zm0 A,Zcn B,Zcn C]
   |true=>match !decide ((A.length:Int)=(B.length:Int))with
    |true=>3
    |false=>match decide ((0:Int)<(A.length:Int))with
     |false=>0
     |true=>match !decide (((wid A:Nat):Int)=(C.length:Int))with
      |true=>3
      |false=>0
abbrev pPV (A:List (List (List UInt8))) (B C:List (List UInt8)):SV:= .agg [.v (.l (.l .s)) A, .v (.l .s) B, .v (.l .s) C]
def okS (l:List (List UInt8)):Prop:= ∀s∈l,s.length≤9223372036854775806
theorem Zqy (m:List (List (List UInt8))):PureOK Tryz.prog Zau 15 [.v (.l (.l .s)) m] (fun V=>V= .v (.i .i64) ((wid m:Nat):Int)):=by
 refine Zaj Zao Tryz.func15 ?_
 refine And.intro (fun h=> ?_) (fun h=> ?_)
 ·have h':decide ((0:Int)<(m.length:Int))=true:=h
  cases m with
  |nil=>cases h'
  |cons r m=>exact⟨r,Int.le_refl 0,rfl,rfl⟩
 ·have h':decide ((0:Int)<(m.length:Int))=false:=h
  have h0:m.length=0:=by have:=of_decide_eq_false h';omega
  rw[List.length_eq_zero_iff.1 h0]
  rfl
theorem Zo3 (a b c:Int):PureOK Tryz.prog Zau 13 [.v (.l (.i .i64)) (sub [a,b,c] 0 3)] (fun V=>V= .v (.i .i64) (Zm9 [a,b,c])):=
 Zqd [a,b,c] (show 3≤1000000 by decide)
set_option maxHeartbeats 4000000 in
theorem Zhq (A:List (List (List UInt8))) (B C:List (List UInt8)) (ha: ∀r∈A,okS r) (hb:okS B) (hc:okS C):PureOK Tryz.prog Zau 30 [pPV A B C] (fun V=>V= .v (.i .i64) (ZkC A B C)):=by
 refine Zaj Zao Tryz.func30 ?_
 have g3:=Zo3 (Zm0 A) (Zcn B) (Zcn C)
 have hM:=ZiC A ha
 have hB:=Zfi B hb
 have hC:=Zfi C hc
 have hE:ZkC A B C=ZkC A B C:=rfl
 conv at hE=>rhs;unfold ZkC
 obtain⟨F,eF⟩: ∃x,Zm9 [Zm0 A,Zcn B,Zcn C]=x:=⟨_,rfl⟩
 rw[eF]at g3 hE
 obtain⟨E,eE⟩: ∃x,ZkC A B C=x:=⟨_,rfl⟩
 rw[eE]at hE⊢
 repeat (first|refine wpg_skipc ?_|refine wpg_next ?_|refine wpg_blkout ?_)
 first|refine Zab (Zaa (id:=0) rfl ?_)|refine Zab (Zab (Zaa (id:=0) rfl ?_))|refine Zaa (id:=0) rfl ?_|refine Zab (Zac rfl (Zab (Zaa (id:=0) rfl ?_)))|refine Zac rfl (Zab (Zaa (id:=0) rfl ?_))
 refine Zgn rfl (fun _=>rfl) rfl rfl ?_
 refine Zad rfl (fun _=>rfl) rfl rfl ?_
 refine Zag ?_
 repeat (first|refine wpg_next ?_|refine wpg_blkout ?_)
 cases h1:decide ((40:Int)<(A.length:Int))with
 |true=>
  rw[h1]at hE
  repeat (first|refine wpg_skipc ?_|refine wpg_next ?_|refine wpg_blkout ?_)
  first|refine Zab (Zaa (id:=1) rfl ?_)|refine Zab (Zab (Zaa (id:=1) rfl ?_))|refine Zaa (id:=1) rfl ?_|refine Zab (Zac rfl (Zab (Zaa (id:=1) rfl ?_)))|refine Zac rfl (Zab (Zaa (id:=1) rfl ?_))
  refine Zad rfl (fun _=>rfl) rfl rfl ?_
  refine Za8 rfl (fun _=>rfl) rfl rfl rfl ?_
  refine Zad rfl (fun _=>rfl) rfl rfl ?_
  refine Zad rfl (fun _=>rfl) rfl rfl ?_
  refine Zad rfl (fun _=>rfl) rfl rfl ?_
  refine Zae rfl rfl rfl h1 rfl rfl ?_
  refine Zae rfl rfl rfl h1 rfl rfl ?_
  refine Zae rfl rfl rfl h1 rfl rfl ?_
  refine Zae rfl rfl rfl h1 rfl rfl ?_
  refine ZaF rfl rfl rfl h1 rfl rfl rfl ?_
  refine Zag ?_
  repeat (first|refine wpg_next ?_|refine wpg_blkout ?_)
  exact And.intro (fun _=>congrArg (SV.v (.i .i64)) hE.symm) (fun h=>nomatch h)
 |false=>
  rw[h1]at hE
  simp only at hE
  cases h2:decide ((40:Int)<(C.length:Int))with
  |true=>
   rw[h2]at hE
   repeat (first|refine wpg_skipc ?_|refine wpg_next ?_|refine wpg_blkout ?_)
   first|refine Zab (Zaa (id:=1) rfl ?_)|refine Zab (Zab (Zaa (id:=1) rfl ?_))|refine Zaa (id:=1) rfl ?_|refine Zab (Zac rfl (Zab (Zaa (id:=1) rfl ?_)))|refine Zac rfl (Zab (Zaa (id:=1) rfl ?_))
   refine Zad rfl (fun _=>rfl) rfl rfl ?_
   refine Za8 rfl (fun _=>rfl) rfl rfl rfl ?_
   refine Zad rfl (fun _=>rfl) rfl rfl ?_
   refine Zad rfl (fun _=>rfl) rfl rfl ?_
   refine Zad rfl (fun _=>rfl) rfl rfl ?_
   refine Zaf rfl rfl rfl h1 (fun _=>rfl) rfl rfl ?_
   refine ZaR rfl rfl rfl h1 (fun _=>rfl) rfl rfl rfl ?_
   refine Zaf rfl rfl rfl h1 (fun _=>rfl) rfl rfl ?_
   refine Zaf rfl rfl rfl h1 (fun _=>rfl) rfl rfl ?_
   refine Zax rfl rfl rfl h1 rfl rfl rfl ?_
   refine Zag ?_
   repeat (first|refine wpg_next ?_|refine wpg_blkout ?_)
   exact And.intro (fun _=>congrArg (SV.v (.i .i64)) hE.symm) (fun h=>by first|(cases h;done)|exact(nf h2 h).elim)
  |false=>
   rw[h2]at hE
   simp only at hE
   repeat (first|refine wpg_skipc ?_|refine wpg_next ?_|refine wpg_blkout ?_)
   first|refine Zab (Zaa (id:=1) rfl ?_)|refine Zab (Zab (Zaa (id:=1) rfl ?_))|refine Zaa (id:=1) rfl ?_|refine Zab (Zac rfl (Zab (Zaa (id:=1) rfl ?_)))|refine Zac rfl (Zab (Zaa (id:=1) rfl ?_))
   refine Zad rfl (fun _=>rfl) rfl rfl ?_
   refine Za8 rfl (fun _=>rfl) rfl rfl rfl ?_
   refine Zad rfl (fun _=>rfl) rfl rfl ?_
   refine Zad rfl (fun _=>rfl) rfl rfl ?_
   refine Zad rfl (fun _=>rfl) rfl rfl ?_
   refine Zaf rfl rfl rfl h1 (fun _=>rfl) rfl rfl ?_
   refine ZaR rfl rfl rfl h1 (fun _=>rfl) rfl rfl rfl ?_
   refine Zaf rfl rfl rfl h1 (fun _=>rfl) rfl rfl ?_
   refine Zaf rfl rfl rfl h1 (fun _=>rfl) rfl rfl ?_
   refine Zax rfl rfl rfl h1 rfl rfl rfl ?_
   refine Zag ?_
   repeat (first|refine wpg_next ?_|refine wpg_blkout ?_)
   refine And.intro (fun h=>by first|(cases h;done)|exact(nf h h2).elim) (fun _=> ?_)
   repeat (first|refine wpg_skipc ?_|refine wpg_next ?_|refine wpg_blkout ?_)
   first|refine Zab (Zaa (id:=3) rfl ?_)|refine Zab (Zab (Zaa (id:=3) rfl ?_))|refine Zaa (id:=3) rfl ?_|refine Zab (Zac rfl (Zab (Zaa (id:=3) rfl ?_)))|refine Zac rfl (Zab (Zaa (id:=3) rfl ?_))
   refine Zad rfl (fun _=>rfl) rfl rfl ?_
   refine Za8 rfl (fun _=>rfl) rfl rfl rfl ?_
   refine Zbr rfl ((hM).mono ?_)
   rintro _ rfl
   refine ZaH rfl rfl ?_
   refine Zad rfl (fun _=>rfl) rfl rfl ?_
   refine Za8 rfl (fun _=>rfl) rfl rfl rfl ?_
   refine Zbr rfl ((hB).mono ?_)
   rintro _ rfl
   refine ZaH rfl rfl ?_
   refine Zad rfl (fun _=>rfl) rfl rfl ?_
   refine Za8 rfl (fun _=>rfl) rfl rfl rfl ?_
   refine Zbr rfl ((hC).mono ?_)
   rintro _ rfl
   refine ZaH rfl rfl ?_
   refine Zgn rfl (fun _=>rfl) rfl rfl ?_
   refine Zbr rfl (And.intro (show 0+3≤3 by decide) ((g3).mono ?_))
   rintro _ rfl
   refine ZaH rfl rfl ?_
   refine Zad rfl (fun _=>rfl) rfl rfl ?_
   refine Zag ?_
   repeat (first|refine wpg_next ?_|refine wpg_blkout ?_)
   cases h3:decide (F=0)with
   |false=>
    rw[h3]at hE
    have h3':(!decide (F=0))=true:=by rw[h3];rfl
    repeat (first|refine wpg_skipc ?_|refine wpg_next ?_|refine wpg_blkout ?_)
    first|refine Zab (Zaa (id:=4) rfl ?_)|refine Zab (Zab (Zaa (id:=4) rfl ?_))|refine Zaa (id:=4) rfl ?_|refine Zab (Zac rfl (Zab (Zaa (id:=4) rfl ?_)))|refine Zac rfl (Zab (Zaa (id:=4) rfl ?_))
    refine Zad rfl (fun _=>rfl) rfl rfl ?_
    refine Zad rfl (fun _=>rfl) rfl rfl ?_
    refine Zag ?_
    repeat (first|refine wpg_next ?_|refine wpg_blkout ?_)
    exact And.intro (fun _=>congrArg (SV.v (.i .i64)) hE.symm) (fun h=>by first|(cases h;done)|exact(nf h3' h).elim)
   |true=>
    rw[h3]at hE
    simp only at hE
    have h3':(!decide (F=0))=false:=by rw[h3];rfl
    repeat (first|refine wpg_skipc ?_|refine wpg_next ?_|refine wpg_blkout ?_)
    first|refine Zab (Zaa (id:=4) rfl ?_)|refine Zab (Zab (Zaa (id:=4) rfl ?_))|refine Zaa (id:=4) rfl ?_|refine Zab (Zac rfl (Zab (Zaa (id:=4) rfl ?_)))|refine Zac rfl (Zab (Zaa (id:=4) rfl ?_))
    refine Zad rfl (fun _=>rfl) rfl rfl ?_
    refine Zad rfl (fun _=>rfl) rfl rfl ?_
    refine Zag ?_
    repeat (first|refine wpg_next ?_|refine wpg_blkout ?_)
    refine And.intro (fun h=>by first|(cases h;done)|exact(nf h h3').elim) (fun _=> ?_)
    cases h4:(!decide ((A.length:Int)=(B.length:Int)))with
    |true=>
     rw[h4]at hE
     repeat (first|refine wpg_skipc ?_|refine wpg_next ?_|refine wpg_blkout ?_)
     first|refine Zab (Zaa (id:=6) rfl ?_)|refine Zab (Zab (Zaa (id:=6) rfl ?_))|refine Zaa (id:=6) rfl ?_|refine Zab (Zac rfl (Zab (Zaa (id:=6) rfl ?_)))|refine Zac rfl (Zab (Zaa (id:=6) rfl ?_))
     refine Zad rfl (fun _=>rfl) rfl rfl ?_
     refine Za8 rfl (fun _=>rfl) rfl rfl rfl ?_
     refine Zad rfl (fun _=>rfl) rfl rfl ?_
     refine Zad rfl (fun _=>rfl) rfl rfl ?_
     refine Za8 rfl (fun _=>rfl) rfl rfl rfl ?_
     refine Zad rfl (fun _=>rfl) rfl rfl ?_
     refine Zad rfl (fun _=>rfl) rfl rfl ?_
     refine Zad rfl (fun _=>rfl) rfl rfl ?_
     refine Zae rfl rfl rfl h4 rfl rfl ?_
     refine Zae rfl rfl rfl h4 rfl rfl ?_
     refine Zae rfl rfl rfl h4 rfl rfl ?_
     refine Zae rfl rfl rfl h4 rfl rfl ?_
     refine Zae rfl rfl rfl h4 rfl rfl ?_
     refine Zam rfl rfl rfl rfl rfl ?_
     refine Zam rfl rfl rfl rfl rfl ?_
     refine Zam rfl rfl rfl rfl rfl ?_
     refine Zam rfl rfl rfl rfl rfl ?_
     refine Zam rfl rfl rfl rfl rfl ?_
     refine Zam rfl rfl rfl rfl rfl ?_
     refine Zam rfl rfl rfl rfl rfl ?_
     refine Zae rfl rfl rfl h4 rfl rfl ?_
     refine ZaF rfl rfl rfl h4 rfl rfl rfl ?_
     refine Zag ?_
     repeat (first|refine wpg_next ?_|refine wpg_blkout ?_)
     exact And.intro (fun _=>congrArg (SV.v (.i .i64)) hE.symm) (fun h=>nomatch h)
    |false=>
     rw[h4]at hE
     simp only at hE
     cases h5:decide ((0:Int)<(A.length:Int))with
     |false=>
      rw[h5]at hE
      repeat (first|refine wpg_skipc ?_|refine wpg_next ?_|refine wpg_blkout ?_)
      first|refine Zab (Zaa (id:=6) rfl ?_)|refine Zab (Zab (Zaa (id:=6) rfl ?_))|refine Zaa (id:=6) rfl ?_|refine Zab (Zac rfl (Zab (Zaa (id:=6) rfl ?_)))|refine Zac rfl (Zab (Zaa (id:=6) rfl ?_))
      refine Zad rfl (fun _=>rfl) rfl rfl ?_
      refine Za8 rfl (fun _=>rfl) rfl rfl rfl ?_
      refine Zad rfl (fun _=>rfl) rfl rfl ?_
      refine Zad rfl (fun _=>rfl) rfl rfl ?_
      refine Za8 rfl (fun _=>rfl) rfl rfl rfl ?_
      refine Zad rfl (fun _=>rfl) rfl rfl ?_
      refine Zad rfl (fun _=>rfl) rfl rfl ?_
      refine Zad rfl (fun _=>rfl) rfl rfl ?_
      refine Zaf rfl rfl rfl h4 (fun _=>rfl) rfl rfl ?_
      refine ZaR rfl rfl rfl h4 (fun _=>rfl) rfl rfl rfl ?_
      refine Zaf rfl rfl rfl h4 (fun _=>rfl) rfl rfl ?_
      refine Zaf rfl rfl rfl h4 (fun _=>rfl) rfl rfl ?_
      refine Zaf rfl rfl rfl h4 (fun _=>rfl) rfl rfl ?_
      refine Zae rfl rfl rfl h5 rfl rfl ?_
      refine Zae rfl rfl rfl h5 rfl rfl ?_
      refine Zae rfl rfl rfl h5 rfl rfl ?_
      refine Zae rfl rfl rfl h5 rfl rfl ?_
      refine Zae rfl rfl rfl h5 rfl rfl ?_
      refine Zae rfl rfl rfl h5 rfl rfl ?_
      refine Zae rfl rfl rfl h5 rfl rfl ?_
      refine ZcG rfl rfl rfl h4 rfl rfl h5 rfl rfl rfl ?_
      refine Zax rfl rfl rfl h4 rfl rfl rfl ?_
      refine Zag ?_
      repeat (first|refine wpg_next ?_|refine wpg_blkout ?_)
      exact And.intro (fun h=>by first|(cases h;done)|exact(nf h h5).elim) (fun _=>congrArg (SV.v (.i .i64)) hE.symm)
     |true=>
      rw[h5]at hE
      simp only at hE
      have hw:=Zqy A
      cases h6:(!decide (((wid A:Nat):Int)=(C.length:Int)))with
      |true=>
       rw[h6]at hE
       repeat (first|refine wpg_skipc ?_|refine wpg_next ?_|refine wpg_blkout ?_)
       first|refine Zab (Zaa (id:=6) rfl ?_)|refine Zab (Zab (Zaa (id:=6) rfl ?_))|refine Zaa (id:=6) rfl ?_|refine Zab (Zac rfl (Zab (Zaa (id:=6) rfl ?_)))|refine Zac rfl (Zab (Zaa (id:=6) rfl ?_))
       refine Zad rfl (fun _=>rfl) rfl rfl ?_
       refine Za8 rfl (fun _=>rfl) rfl rfl rfl ?_
       refine Zad rfl (fun _=>rfl) rfl rfl ?_
       refine Zad rfl (fun _=>rfl) rfl rfl ?_
       refine Za8 rfl (fun _=>rfl) rfl rfl rfl ?_
       refine Zad rfl (fun _=>rfl) rfl rfl ?_
       refine Zad rfl (fun _=>rfl) rfl rfl ?_
       refine Zad rfl (fun _=>rfl) rfl rfl ?_
       refine Zaf rfl rfl rfl h4 (fun _=>rfl) rfl rfl ?_
       refine ZaR rfl rfl rfl h4 (fun _=>rfl) rfl rfl rfl ?_
       refine Zaf rfl rfl rfl h4 (fun _=>rfl) rfl rfl ?_
       refine Zaf rfl rfl rfl h4 (fun _=>rfl) rfl rfl ?_
       refine Zaf rfl rfl rfl h4 (fun _=>rfl) rfl rfl ?_
       refine Zaf rfl rfl rfl h5 (fun _=>rfl) rfl rfl ?_
       refine ZaR rfl rfl rfl h5 (fun _=>rfl) rfl rfl rfl ?_
       refine ZcH rfl rfl rfl h5 ((hw).mono ?_)
       rintro _ rfl
       refine ZaH rfl rfl ?_
       refine Zaf rfl rfl rfl h5 (fun _=>rfl) rfl rfl ?_
       refine ZaR rfl rfl rfl h5 (fun _=>rfl) rfl rfl rfl ?_
       refine Zaf rfl rfl rfl h5 (fun _=>rfl) rfl rfl ?_
       refine Zaf rfl rfl rfl h5 (fun _=>rfl) rfl rfl ?_
       refine Zbv rfl rfl rfl h4 rfl rfl h5 rfl rfl rfl ?_
       refine Zax rfl rfl rfl h4 rfl rfl rfl ?_
       refine Zag ?_
       repeat (first|refine wpg_next ?_|refine wpg_blkout ?_)
       exact And.intro (fun _=>congrArg (SV.v (.i .i64)) hE.symm) (fun h=>by first|(cases h;done)|exact(nf h6 h).elim)
      |false=>
       rw[h6]at hE
       repeat (first|refine wpg_skipc ?_|refine wpg_next ?_|refine wpg_blkout ?_)
       first|refine Zab (Zaa (id:=6) rfl ?_)|refine Zab (Zab (Zaa (id:=6) rfl ?_))|refine Zaa (id:=6) rfl ?_|refine Zab (Zac rfl (Zab (Zaa (id:=6) rfl ?_)))|refine Zac rfl (Zab (Zaa (id:=6) rfl ?_))
       refine Zad rfl (fun _=>rfl) rfl rfl ?_
       refine Za8 rfl (fun _=>rfl) rfl rfl rfl ?_
       refine Zad rfl (fun _=>rfl) rfl rfl ?_
       refine Zad rfl (fun _=>rfl) rfl rfl ?_
       refine Za8 rfl (fun _=>rfl) rfl rfl rfl ?_
       refine Zad rfl (fun _=>rfl) rfl rfl ?_
       refine Zad rfl (fun _=>rfl) rfl rfl ?_
       refine Zad rfl (fun _=>rfl) rfl rfl ?_
       refine Zaf rfl rfl rfl h4 (fun _=>rfl) rfl rfl ?_
       refine ZaR rfl rfl rfl h4 (fun _=>rfl) rfl rfl rfl ?_
       refine Zaf rfl rfl rfl h4 (fun _=>rfl) rfl rfl ?_
       refine Zaf rfl rfl rfl h4 (fun _=>rfl) rfl rfl ?_
       refine Zaf rfl rfl rfl h4 (fun _=>rfl) rfl rfl ?_
       refine Zaf rfl rfl rfl h5 (fun _=>rfl) rfl rfl ?_
       refine ZaR rfl rfl rfl h5 (fun _=>rfl) rfl rfl rfl ?_
       refine ZcH rfl rfl rfl h5 ((hw).mono ?_)
       rintro _ rfl
       refine ZaH rfl rfl ?_
       refine Zaf rfl rfl rfl h5 (fun _=>rfl) rfl rfl ?_
       refine ZaR rfl rfl rfl h5 (fun _=>rfl) rfl rfl rfl ?_
       refine Zaf rfl rfl rfl h5 (fun _=>rfl) rfl rfl ?_
       refine Zaf rfl rfl rfl h5 (fun _=>rfl) rfl rfl ?_
       refine Zbv rfl rfl rfl h4 rfl rfl h5 rfl rfl rfl ?_
       refine Zax rfl rfl rfl h4 rfl rfl rfl ?_
       refine Zag ?_
       repeat (first|refine wpg_next ?_|refine wpg_blkout ?_)
       exact And.intro (fun h=>by first|(cases h;done)|exact(nf h h6).elim) (fun _=>congrArg (SV.v (.i .i64)) hE.symm)
end Go.Proofs.YtdnodlkdndfplaaGreatDoor
