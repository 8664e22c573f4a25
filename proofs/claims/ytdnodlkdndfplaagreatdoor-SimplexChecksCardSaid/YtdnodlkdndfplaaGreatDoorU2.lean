/-
 simplex.Check; simplex.Solve and simplex.Verify of problems that are not well-formed.
-/
import Derived.Test.YtdnodlkdndfplaaGreatDoorU1
import Derived.Test.YtdnodlkdndfplaaGreatDoorTxD
set_option linter.constructorNameAsVariable false
set_option linter.unusedSimpArgs false
set_option linter.unusedVariables false
namespace Go.Proofs.YtdnodlkdndfplaaGreatDoor
open Go.Am Go.Tx Dv Go.Lib
set_option maxRecDepth 100000
theorem ZrU {b:Bool} (h:b=false):(!b)=true:=by rw[h];rfl
theorem ZsG {b:Bool} (h:b=true):(!b)=false:=by rw[h];rfl
set_option maxHeartbeats 8000000 in
theorem Zio (A:List (List (List UInt8))) (B C:List (List UInt8)) (ha: ∀r∈A,okS r) (hb:okS B) (hc:okS C):PureOK Tryz.prog Zau 31 [pPV A B C] (fun V=>V= .v (.i .i64) (ZkC A B C)):=by
 refine Zaj Zao Tryz.func31 ?_
 have hM:=ZpK A ha
 have hE:ZkC A B C=ZkC A B C:=rfl
 conv at hE=>rhs;unfold ZkC
 have eF:Zm9 [Zm0 A,Zcn B,Zcn C]=match decide (Zm0 A=0)with|false=>Zm0 A|true=>match decide (Zcn B=0)with|false=>Zcn B|true=>Zcn C:=by
  rw[Zm9,Zqa]
  cases decide (Zm0 A=0)with
  |false=>rfl
  |true=>
   simp only[Zuc]
   cases decide (Zcn B=0)<;>rfl
 rw[eF]at hE
 obtain⟨E,eE⟩: ∃x,ZkC A B C=x:=⟨_,rfl⟩
 rw[eE]at hE⊢
 repeat (first|refine wpg_skipc ?_|refine wpg_next ?_|refine wpg_blkout ?_)
 first|refine Zab (Zaa (id:=0) rfl ?_)|refine Zab (Zab (Zaa (id:=0) rfl ?_))|refine Zaa (id:=0) rfl ?_|refine Zab (Zac rfl (Zab (Zaa (id:=0) rfl ?_)))|refine Zac rfl (Zab (Zaa (id:=0) rfl ?_))
 refine Zgn rfl (fun _=>rfl) rfl rfl ?_
 refine Zad rfl (fun _=>rfl) rfl rfl ?_
 refine Zag ?_
 repeat (first|refine wpg_next ?_|refine wpg_blkout ?_)
 cases h1:decide ((40:Int)<(A.length:Int))with
 |true=>
  rw[h1]at hE
  repeat (first|refine wpg_skipc ?_|refine wpg_next ?_|refine wpg_blkout ?_)
  first|refine Zab (Zaa (id:=1) rfl ?_)|refine Zab (Zab (Zaa (id:=1) rfl ?_))|refine Zaa (id:=1) rfl ?_|refine Zab (Zac rfl (Zab (Zaa (id:=1) rfl ?_)))|refine Zac rfl (Zab (Zaa (id:=1) rfl ?_))
  refine Zad rfl (fun _=>rfl) rfl rfl ?_
  refine Za8 rfl (fun _=>rfl) rfl rfl rfl ?_
  refine Zad rfl (fun _=>rfl) rfl rfl ?_
  refine Zad rfl (fun _=>rfl) rfl rfl ?_
  refine Zad rfl (fun _=>rfl) rfl rfl ?_
  refine Zae rfl rfl rfl h1 rfl rfl ?_
  refine Zae rfl rfl rfl h1 rfl rfl ?_
  refine Zae rfl rfl rfl h1 rfl rfl ?_
  refine Zae rfl rfl rfl h1 rfl rfl ?_
  refine ZaF rfl rfl rfl h1 rfl rfl rfl ?_
  refine Zag ?_
  repeat (first|refine wpg_next ?_|refine wpg_blkout ?_)
  exact And.intro (fun _=>congrArg (SV.v (.i .i64)) hE.symm) (fun h=>nomatch h)
 |false=>
  rw[h1]at hE
  simp only at hE
  cases h2:decide ((40:Int)<(C.length:Int))with
  |true=>
   rw[h2]at hE
   repeat (first|refine wpg_skipc ?_|refine wpg_next ?_|refine wpg_blkout ?_)
   first|refine Zab (Zaa (id:=1) rfl ?_)|refine Zab (Zab (Zaa (id:=1) rfl ?_))|refine Zaa (id:=1) rfl ?_|refine Zab (Zac rfl (Zab (Zaa (id:=1) rfl ?_)))|refine Zac rfl (Zab (Zaa (id:=1) rfl ?_))
   refine Zad rfl (fun _=>rfl) rfl rfl ?_
   refine Za8 rfl (fun _=>rfl) rfl rfl rfl ?_
   refine Zad rfl (fun _=>rfl) rfl rfl ?_
   refine Zad rfl (fun _=>rfl) rfl rfl ?_
   refine Zad rfl (fun _=>rfl) rfl rfl ?_
   refine Zaf rfl rfl rfl h1 (fun _=>rfl) rfl rfl ?_
   refine ZaR rfl rfl rfl h1 (fun _=>rfl) rfl rfl rfl ?_
   refine Zaf rfl rfl rfl h1 (fun _=>rfl) rfl rfl ?_
   refine Zaf rfl rfl rfl h1 (fun _=>rfl) rfl rfl ?_
   refine Zax rfl rfl rfl h1 rfl rfl rfl ?_
   refine Zag ?_
   repeat (first|refine wpg_next ?_|refine wpg_blkout ?_)
   exact And.intro (fun _=>congrArg (SV.v (.i .i64)) hE.symm) (fun h=>by first|(cases h;done)|exact(nf h2 h).elim)
  |false=>
   rw[h2]at hE
   simp only at hE
   repeat (first|refine wpg_skipc ?_|refine wpg_next ?_|refine wpg_blkout ?_)
   first|refine Zab (Zaa (id:=1) rfl ?_)|refine Zab (Zab (Zaa (id:=1) rfl ?_))|refine Zaa (id:=1) rfl ?_|refine Zab (Zac rfl (Zab (Zaa (id:=1) rfl ?_)))|refine Zac rfl (Zab (Zaa (id:=1) rfl ?_))
   refine Zad rfl (fun _=>rfl) rfl rfl ?_
   refine Za8 rfl (fun _=>rfl) rfl rfl rfl ?_
   refine Zad rfl (fun _=>rfl) rfl rfl ?_
   refine Zad rfl (fun _=>rfl) rfl rfl ?_
   refine Zad rfl (fun _=>rfl) rfl rfl ?_
   refine Zaf rfl rfl rfl h1 (fun _=>rfl) rfl rfl ?_
   refine ZaR rfl rfl rfl h1 (fun _=>rfl) rfl rfl rfl ?_
   refine Zaf rfl rfl rfl h1 (fun _=>rfl) rfl rfl ?_
   refine Zaf rfl rfl rfl h1 (fun _=>rfl) rfl rfl ?_
   refine Zax rfl rfl rfl h1 rfl rfl rfl ?_
   refine Zag ?_
   repeat (first|refine wpg_next ?_|refine wpg_blkout ?_)
   refine And.intro (fun h=>by first|(cases h;done)|exact(nf h h2).elim) (fun _=> ?_)
   repeat (first|refine wpg_skipc ?_|refine wpg_next ?_|refine wpg_blkout ?_)
   first|refine Zab (Zaa (id:=3) rfl ?_)|refine Zab (Zab (Zaa (id:=3) rfl ?_))|refine Zaa (id:=3) rfl ?_|refine Zab (Zac rfl (Zab (Zaa (id:=3) rfl ?_)))|refine Zac rfl (Zab (Zaa (id:=3) rfl ?_))
   refine Zad rfl (fun _=>rfl) rfl rfl ?_
   refine Za8 rfl (fun _=>rfl) rfl rfl rfl ?_
   refine Zbr rfl ((hM).mono ?_)
   rintro _ rfl
   refine ZaH rfl rfl ?_
   refine Zad rfl (fun _=>rfl) rfl rfl ?_
   refine Zag ?_
   repeat (first|refine wpg_next ?_|refine wpg_blkout ?_)
   cases h3:decide (Zm0 A=0)with
   |false=>
    rw[h3]at hE
    simp only[h3]at hE
    have h3':=ZrU h3
    repeat (first|refine wpg_skipc ?_|refine wpg_next ?_|refine wpg_blkout ?_)
    first|refine Zab (Zaa (id:=4) rfl ?_)|refine Zab (Zab (Zaa (id:=4) rfl ?_))|refine Zaa (id:=4) rfl ?_|refine Zab (Zac rfl (Zab (Zaa (id:=4) rfl ?_)))|refine Zac rfl (Zab (Zaa (id:=4) rfl ?_))
    refine Zad rfl (fun _=>rfl) rfl rfl ?_
    refine Zad rfl (fun _=>rfl) rfl rfl ?_
    refine Zag ?_
    repeat (first|refine wpg_next ?_|refine wpg_blkout ?_)
    exact And.intro (fun _=>congrArg (SV.v (.i .i64)) hE.symm) (fun h=>by first|(cases h;done)|exact(nf h3' h).elim)
   |true=>
    rw[h3]at hE
    simp only at hE
    have h3':=ZsG h3
    repeat (first|refine wpg_skipc ?_|refine wpg_next ?_|refine wpg_blkout ?_)
    first|refine Zab (Zaa (id:=4) rfl ?_)|refine Zab (Zab (Zaa (id:=4) rfl ?_))|refine Zaa (id:=4) rfl ?_|refine Zab (Zac rfl (Zab (Zaa (id:=4) rfl ?_)))|refine Zac rfl (Zab (Zaa (id:=4) rfl ?_))
    refine Zad rfl (fun _=>rfl) rfl rfl ?_
    refine Zad rfl (fun _=>rfl) rfl rfl ?_
    refine Zag ?_
    repeat (first|refine wpg_next ?_|refine wpg_blkout ?_)
    refine And.intro (fun h=>by first|(cases h;done)|exact(nf h h3').elim) (fun _=> ?_)
    repeat (first|refine wpg_skipc ?_|refine wpg_next ?_|refine wpg_blkout ?_)
    first|refine Zab (Zaa (id:=6) rfl ?_)|refine Zab (Zab (Zaa (id:=6) rfl ?_))|refine Zaa (id:=6) rfl ?_|refine Zab (Zac rfl (Zab (Zaa (id:=6) rfl ?_)))|refine Zac rfl (Zab (Zaa (id:=6) rfl ?_))
    refine Zad rfl (fun _=>rfl) rfl rfl ?_
    refine Za8 rfl (fun _=>rfl) rfl rfl rfl ?_
    refine Zad rfl (fun _=>rfl) rfl rfl ?_
    refine Za8 rfl (fun _=>rfl) rfl rfl rfl ?_
    refine Zgn rfl (fun _=>rfl) rfl rfl ?_
    refine Zad rfl (fun _=>rfl) rfl rfl ?_
    refine Zad rfl (fun _=>rfl) rfl rfl ?_
    refine Zag ?_
    repeat (first|refine wpg_next ?_|refine wpg_blkout ?_)
    refine ZaC Zao rfl (fun(i:Nat)=> [(1, .ptr 0 0 0),(27, .ref 1 0 2 none),(28, .v (.i .i64) (2:Int)),(29, .v (.i .i64) (i:Int))]) (fun _=> [.cell [.v (.l (.l .s)) A, .v (.l .s) B, .v (.l .s) C] true, .row (.l .s) [B,C] true])
     (fun i=>i≤2∧(1≤i→Zcn B=0)∧(2≤i→Zcn C=0)) (fun i=>2-i) ?_ 0 ⟨by omega,fun h=>absurd h (by omega),fun h=>absurd h (by omega)⟩ ?_
    ·rintro i ⟨hi,iB,iC⟩
     refine And.intro (fun h=> ?_) (fun h=> ?_)
     ·have hlt:i<2:=by have h':(i:Int)<(2:Int):=of_decide_eq_true h;omega
      have ci:(0:Int)≤(i:Int)∧(i:Int)<((2:Nat):Int):=by omega
      have wi:IntKind.i64.wrap ((i:Int)+1)=((i+1:Nat):Int):=Zan (by omega) (by omega)
      obtain⟨x,gx,hx,hz,hnz⟩: ∃x,([B,C]:List (List (List UInt8)))[0+(i:Int).toNat]? =some x∧okS x∧(Zcn x=0→(1≤i+1→Zcn B=0)∧(2≤i+1→Zcn C=0))∧(decide (Zcn x=0)=false→E=Zcn x):=by
       rw[Int.toNat_natCast,Nat.zero_add]
       rcases(show i=0∨i=1 by omega)with rfl|rfl
       ·refine⟨B,rfl,hb,fun h=>⟨fun _=>h,fun h=>absurd h (by omega)⟩,fun h=> ?_⟩
        rw[h]at hE
        simp only[h]at hE
        exact hE
       ·have b0:=iB (Nat.le_refl 1)
        rw[decide_eq_true b0]at hE
        simp only at hE
        refine⟨C,rfl,hc,fun h=>⟨fun _=>b0,fun _=>h⟩,fun h=> ?_⟩
        rw[h]at hE
        exact hE
      refine And.intro ci ?_
      refine⟨x,gx, ?_⟩
      refine(ZhH x hx).mono ?_
      rintro _ rfl
      refine And.intro (fun h3=> ?_) (fun h3=> ?_)
      ·have h3':(!decide (Zcn x=0))=true:=h3
       have hd2:decide (Zcn x=0)=false:=by cases hd:decide (Zcn x=0)<;>simp[hd]at h3'⊢
       exact congrArg (SV.v (.i .i64)) (hnz hd2).symm
      ·have h3':(!decide (Zcn x=0))=false:=h3
       have hd2:decide (Zcn x=0)=true:=by cases hd:decide (Zcn x=0)<;>simp[hd]at h3'⊢
       obtain⟨g1,g2⟩:=hz (of_decide_eq_true hd2)
       refine⟨i+1,⟨hlt,g1,g2⟩,by show 2-(i+1)<2-i;omega, ?_⟩
       exact Zl9 ⟨rfl,rfl,rfl,congrArg (fun x=>some (SV.v (.i .i64) x)) wi,trivial⟩
     ·have hi2:i=2:=by have h': ¬ (i:Int)<(2:Int):=of_decide_eq_false h;omega
      have b0:=iB (by omega)
      have c0:=iC (by omega)
      rw[decide_eq_true b0]at hE
      simp only[decide_eq_true c0]at hE
      cases h4:(!decide ((A.length:Int)=(B.length:Int)))with
      |true=>
       rw[h4]at hE
       have h4':(!decide ((B.length:Int)=(A.length:Int)))=true:=by rw[←h4];congr 1;exact decide_eq_decide.2 eq_comm
       repeat (first|refine wpg_skipc ?_|refine wpg_next ?_|refine wpg_blkout ?_)
       first|refine Zab (Zaa (id:=13) rfl ?_)|refine Zab (Zab (Zaa (id:=13) rfl ?_))|refine Zaa (id:=13) rfl ?_|refine Zab (Zac rfl (Zab (Zaa (id:=13) rfl ?_)))|refine Zac rfl (Zab (Zaa (id:=13) rfl ?_))
       refine Zad rfl (fun _=>rfl) rfl rfl ?_
       refine Za8 rfl (fun _=>rfl) rfl rfl rfl ?_
       refine Zad rfl (fun _=>rfl) rfl rfl ?_
       refine Zad rfl (fun _=>rfl) rfl rfl ?_
       refine Za8 rfl (fun _=>rfl) rfl rfl rfl ?_
       refine Zad rfl (fun _=>rfl) rfl rfl ?_
       refine Zad rfl (fun _=>rfl) rfl rfl ?_
       refine Zad rfl (fun _=>rfl) rfl rfl ?_
       refine Zae rfl rfl rfl h4' rfl rfl ?_
       refine Zae rfl rfl rfl h4' rfl rfl ?_
       refine Zae rfl rfl rfl h4' rfl rfl ?_
       refine Zae rfl rfl rfl h4' rfl rfl ?_
       refine Zae rfl rfl rfl h4' rfl rfl ?_
       refine Zam rfl rfl rfl rfl rfl ?_
       refine Zam rfl rfl rfl rfl rfl ?_
       refine Zam rfl rfl rfl rfl rfl ?_
       refine Zam rfl rfl rfl rfl rfl ?_
       refine Zam rfl rfl rfl rfl rfl ?_
       refine Zam rfl rfl rfl rfl rfl ?_
       refine Zam rfl rfl rfl rfl rfl ?_
       refine Zam rfl rfl rfl rfl rfl ?_
       refine Zam rfl rfl rfl rfl rfl ?_
       refine Zae rfl rfl rfl h4' rfl rfl ?_
       refine ZaF rfl rfl rfl h4' rfl rfl rfl ?_
       refine Zag ?_
       repeat (first|refine wpg_next ?_|refine wpg_blkout ?_)
       exact And.intro (fun _=>congrArg (SV.v (.i .i64)) hE.symm) (fun h=>nomatch h)
      |false=>
       rw[h4]at hE
       simp only at hE
       have h4':(!decide ((B.length:Int)=(A.length:Int)))=false:=by rw[←h4];congr 1;exact decide_eq_decide.2 eq_comm
       cases h5:decide ((0:Int)<(A.length:Int))with
       |false=>
        rw[h5]at hE
        repeat (first|refine wpg_skipc ?_|refine wpg_next ?_|refine wpg_blkout ?_)
        first|refine Zab (Zaa (id:=13) rfl ?_)|refine Zab (Zab (Zaa (id:=13) rfl ?_))|refine Zaa (id:=13) rfl ?_|refine Zab (Zac rfl (Zab (Zaa (id:=13) rfl ?_)))|refine Zac rfl (Zab (Zaa (id:=13) rfl ?_))
        refine Zad rfl (fun _=>rfl) rfl rfl ?_
        refine Za8 rfl (fun _=>rfl) rfl rfl rfl ?_
        refine Zad rfl (fun _=>rfl) rfl rfl ?_
        refine Zad rfl (fun _=>rfl) rfl rfl ?_
        refine Za8 rfl (fun _=>rfl) rfl rfl rfl ?_
        refine Zad rfl (fun _=>rfl) rfl rfl ?_
        refine Zad rfl (fun _=>rfl) rfl rfl ?_
        refine Zad rfl (fun _=>rfl) rfl rfl ?_
        refine Zaf rfl rfl rfl h4' (fun _=>rfl) rfl rfl ?_
        refine ZaR rfl rfl rfl h4' (fun _=>rfl) rfl rfl rfl ?_
        refine Zaf rfl rfl rfl h4' (fun _=>rfl) rfl rfl ?_
        refine Zaf rfl rfl rfl h4' (fun _=>rfl) rfl rfl ?_
        refine Zaf rfl rfl rfl h4' (fun _=>rfl) rfl rfl ?_
        refine Zae rfl rfl rfl h5 rfl rfl ?_
        refine Zae rfl rfl rfl h5 rfl rfl ?_
        refine Zae rfl rfl rfl h5 rfl rfl ?_
        refine Zae rfl rfl rfl h5 rfl rfl ?_
        refine Zae rfl rfl rfl h5 rfl rfl ?_
        refine Zae rfl rfl rfl h5 rfl rfl ?_
        refine Zae rfl rfl rfl h5 rfl rfl ?_
        refine Zae rfl rfl rfl h5 rfl rfl ?_
        refine Zae rfl rfl rfl h5 rfl rfl ?_
        refine ZcG rfl rfl rfl h4' rfl rfl h5 rfl rfl rfl ?_
        refine Zax rfl rfl rfl h4' rfl rfl rfl ?_
        refine Zag ?_
        repeat (first|refine wpg_next ?_|refine wpg_blkout ?_)
        exact And.intro (fun h=>by first|(cases h;done)|exact(nf h h5).elim) (fun _=>congrArg (SV.v (.i .i64)) hE.symm)
       |true=>
        rw[h5]at hE
        simp only at hE
        obtain⟨r0,g0,hw⟩: ∃r0,A[(0:Int).toNat]? =some r0∧wid A=r0.length:=by
         cases A with
         |nil=>cases h5
         |cons r l=>exact⟨r,rfl,rfl⟩
        rw[hw]at hE
        cases h6:(!decide (((r0.length:Nat):Int)=(C.length:Int)))with
        |true=>
         rw[h6]at hE
         repeat (first|refine wpg_skipc ?_|refine wpg_next ?_|refine wpg_blkout ?_)
         first|refine Zab (Zaa (id:=13) rfl ?_)|refine Zab (Zab (Zaa (id:=13) rfl ?_))|refine Zaa (id:=13) rfl ?_|refine Zab (Zac rfl (Zab (Zaa (id:=13) rfl ?_)))|refine Zac rfl (Zab (Zaa (id:=13) rfl ?_))
         refine Zad rfl (fun _=>rfl) rfl rfl ?_
         refine Za8 rfl (fun _=>rfl) rfl rfl rfl ?_
         refine Zad rfl (fun _=>rfl) rfl rfl ?_
         refine Zad rfl (fun _=>rfl) rfl rfl ?_
         refine Za8 rfl (fun _=>rfl) rfl rfl rfl ?_
         refine Zad rfl (fun _=>rfl) rfl rfl ?_
         refine Zad rfl (fun _=>rfl) rfl rfl ?_
         refine Zad rfl (fun _=>rfl) rfl rfl ?_
         refine Zaf rfl rfl rfl h4' (fun _=>rfl) rfl rfl ?_
         refine ZaR rfl rfl rfl h4' (fun _=>rfl) rfl rfl rfl ?_
         refine Zaf rfl rfl rfl h4' (fun _=>rfl) rfl rfl ?_
         refine Zaf rfl rfl rfl h4' (fun _=>rfl) rfl rfl ?_
         refine Zaf rfl rfl rfl h4' (fun _=>rfl) rfl rfl ?_
         refine Zaf rfl rfl rfl h5 (fun _=>rfl) rfl rfl ?_
         refine ZaR rfl rfl rfl h5 (fun _=>rfl) rfl rfl rfl ?_
         refine ZgE rfl rfl rfl h5 (fun _=>rfl) (Int.le_refl 0) g0 rfl rfl ?_
         refine Zaf rfl rfl rfl h5 (fun _=>rfl) rfl rfl ?_
         refine Zaf rfl rfl rfl h5 (fun _=>rfl) rfl rfl ?_
         refine Zaf rfl rfl rfl h5 (fun _=>rfl) rfl rfl ?_
         refine ZaR rfl rfl rfl h5 (fun _=>rfl) rfl rfl rfl ?_
         refine Zaf rfl rfl rfl h5 (fun _=>rfl) rfl rfl ?_
         refine Zaf rfl rfl rfl h5 (fun _=>rfl) rfl rfl ?_
         refine Zbv rfl rfl rfl h4' rfl rfl h5 rfl rfl rfl ?_
         refine Zax rfl rfl rfl h4' rfl rfl rfl ?_
         refine Zag ?_
         repeat (first|refine wpg_next ?_|refine wpg_blkout ?_)
         exact And.intro (fun _=>congrArg (SV.v (.i .i64)) hE.symm) (fun h=>by first|(cases h;done)|exact(nf h6 h).elim)
        |false=>
         rw[h6]at hE
         repeat (first|refine wpg_skipc ?_|refine wpg_next ?_|refine wpg_blkout ?_)
         first|refine Zab (Zaa (id:=13) rfl ?_)|refine Zab (Zab (Zaa (id:=13) rfl ?_))|refine Zaa (id:=13) rfl ?_|refine Zab (Zac rfl (Zab (Zaa (id:=13) rfl ?_)))|refine Zac rfl (Zab (Zaa (id:=13) rfl ?_))
         refine Zad rfl (fun _=>rfl) rfl rfl ?_
         refine Za8 rfl (fun _=>rfl) rfl rfl rfl ?_
         refine Zad rfl (fun _=>rfl) rfl rfl ?_
         refine Zad rfl (fun _=>rfl) rfl rfl ?_
         refine Za8 rfl (fun _=>rfl) rfl rfl rfl ?_
         refine Zad rfl (fun _=>rfl) rfl rfl ?_
         refine Zad rfl (fun _=>rfl) rfl rfl ?_
         refine Zad rfl (fun _=>rfl) rfl rfl ?_
         refine Zaf rfl rfl rfl h4' (fun _=>rfl) rfl rfl ?_
         refine ZaR rfl rfl rfl h4' (fun _=>rfl) rfl rfl rfl ?_
         refine Zaf rfl rfl rfl h4' (fun _=>rfl) rfl rfl ?_
         refine Zaf rfl rfl rfl h4' (fun _=>rfl) rfl rfl ?_
         refine Zaf rfl rfl rfl h4' (fun _=>rfl) rfl rfl ?_
         refine Zaf rfl rfl rfl h5 (fun _=>rfl) rfl rfl ?_
         refine ZaR rfl rfl rfl h5 (fun _=>rfl) rfl rfl rfl ?_
         refine ZgE rfl rfl rfl h5 (fun _=>rfl) (Int.le_refl 0) g0 rfl rfl ?_
         refine Zaf rfl rfl rfl h5 (fun _=>rfl) rfl rfl ?_
         refine Zaf rfl rfl rfl h5 (fun _=>rfl) rfl rfl ?_
         refine Zaf rfl rfl rfl h5 (fun _=>rfl) rfl rfl ?_
         refine ZaR rfl rfl rfl h5 (fun _=>rfl) rfl rfl rfl ?_
         refine Zaf rfl rfl rfl h5 (fun _=>rfl) rfl rfl ?_
         refine Zaf rfl rfl rfl h5 (fun _=>rfl) rfl rfl ?_
         refine Zbv rfl rfl rfl h4' rfl rfl h5 rfl rfl rfl ?_
         refine Zax rfl rfl rfl h4' rfl rfl rfl ?_
         refine Zag ?_
         repeat (first|refine wpg_next ?_|refine wpg_blkout ?_)
         exact And.intro (fun h=>by first|(cases h;done)|exact(nf h h6).elim) (fun _=>congrArg (SV.v (.i .i64)) hE.symm)
    ·exact Zl9 ⟨rfl,rfl,rfl,rfl,trivial⟩
abbrev Ztw:SV:= .agg [.v (.i .i64) (0:Int), .nils, .nils, .nils, .v .s ([]:List UInt8)]
set_option maxHeartbeats 4000000 in
theorem ZqO (A:List (List (List UInt8))) (B C:List (List UInt8)) (ha: ∀r∈A,okS r) (hb:okS B) (hc:okS C) (hE:decide (ZkC A B C=0)=false):PureOK Tryz.prog Zau 32 [pPV A B C] (fun V=>V= .tup [Ztw, .v (.i .i64) (ZkC A B C)]):=by
 refine Zaj Zao Tryz.func32 ?_
 have hS:=Zio A B C ha hb hc
 have h3':=ZrU hE
 repeat (first|refine wpg_skipc ?_|refine wpg_next ?_|refine wpg_blkout ?_)
 first|refine Zab (Zaa (id:=0) rfl ?_)|refine Zab (Zab (Zaa (id:=0) rfl ?_))|refine Zaa (id:=0) rfl ?_|refine Zab (Zac rfl (Zab (Zaa (id:=0) rfl ?_)))|refine Zac rfl (Zab (Zaa (id:=0) rfl ?_))
 refine Zgn rfl (fun _=>rfl) rfl rfl ?_
 refine Zgn rfl (fun _=>rfl) rfl rfl ?_
 refine Zad rfl (fun _=>rfl) rfl rfl ?_
 refine Zag ?_
 repeat (first|refine wpg_next ?_|refine wpg_blkout ?_)
 repeat (first|refine wpg_skipc ?_|refine wpg_next ?_|refine wpg_blkout ?_)
 first|refine Zab (Zaa (id:=1) rfl ?_)|refine Zab (Zab (Zaa (id:=1) rfl ?_))|refine Zaa (id:=1) rfl ?_|refine Zab (Zac rfl (Zab (Zaa (id:=1) rfl ?_)))|refine Zac rfl (Zab (Zaa (id:=1) rfl ?_))
 refine Zad rfl (fun _=>rfl) rfl rfl ?_
 refine Zgn rfl (fun _=>rfl) rfl rfl ?_
 refine Zbr rfl (ZgL rfl rfl rfl rfl rfl rfl rfl rfl ?_)
 refine ZiL rfl ?_
 refine Zag ?_
 repeat (first|refine wpg_next ?_|refine wpg_blkout ?_)
 repeat (first|refine wpg_skipc ?_|refine wpg_next ?_|refine wpg_blkout ?_)
 first|refine Zab (Zaa (id:=2) rfl ?_)|refine Zab (Zab (Zaa (id:=2) rfl ?_))|refine Zaa (id:=2) rfl ?_|refine Zab (Zac rfl (Zab (Zaa (id:=2) rfl ?_)))|refine Zac rfl (Zab (Zaa (id:=2) rfl ?_))
 refine Za8 rfl (fun _=>rfl) rfl rfl rfl ?_
 refine Zbr rfl ((hS).mono ?_)
 rintro _ rfl
 refine ZaH rfl rfl ?_
 refine Zad rfl (fun _=>rfl) rfl rfl ?_
 refine Zag ?_
 repeat (first|refine wpg_next ?_|refine wpg_blkout ?_)
 repeat (first|refine wpg_skipc ?_|refine wpg_next ?_|refine wpg_blkout ?_)
 first|refine Zab (Zaa (id:=3) rfl ?_)|refine Zab (Zab (Zaa (id:=3) rfl ?_))|refine Zaa (id:=3) rfl ?_|refine Zab (Zac rfl (Zab (Zaa (id:=3) rfl ?_)))|refine Zac rfl (Zab (Zaa (id:=3) rfl ?_))
 refine Zad rfl (fun _=>rfl) rfl rfl ?_
 refine Zad rfl (fun _=>rfl) rfl rfl ?_
 refine Zag ?_
 repeat (first|refine wpg_next ?_|refine wpg_blkout ?_)
 refine And.intro (fun _=> ?_) (fun h=>by first|(cases h;done)|exact(nf h3' h).elim)
 repeat (first|refine wpg_skipc ?_|refine wpg_next ?_|refine wpg_blkout ?_)
 first|refine Zab (Zaa (id:=4) rfl ?_)|refine Zab (Zab (Zaa (id:=4) rfl ?_))|refine Zaa (id:=4) rfl ?_|refine Zab (Zac rfl (Zab (Zaa (id:=4) rfl ?_)))|refine Zac rfl (Zab (Zaa (id:=4) rfl ?_))
 refine Za8 rfl (fun _=>rfl) rfl rfl rfl ?_
 refine Zad rfl (fun _=>rfl) rfl rfl ?_
 refine Zbr rfl (ZgL rfl rfl rfl rfl rfl rfl rfl rfl ?_)
 refine ZiL rfl ?_
 refine Zad rfl (fun _=>rfl) rfl rfl ?_
 refine Zag ?_
 repeat (first|refine wpg_next ?_|refine wpg_blkout ?_)
 exact⟨rfl,rfl⟩
set_option maxHeartbeats 4000000 in
theorem ZoM (A:List (List (List UInt8))) (B C:List (List UInt8)) (ha: ∀r∈A,okS r) (hb:okS B) (hc:okS C) (hE:decide (ZkC A B C=0)=false):PureOK Tryz.prog Zau 33 [pPV A B C,Ztw] (fun V=>V= .v (.i .i64) (ZkC A B C)):=by
 refine Zaj Zao Tryz.func33 ?_
 have hS:=Zio A B C ha hb hc
 have h3':=ZrU hE
 repeat (first|refine wpg_skipc ?_|refine wpg_next ?_|refine wpg_blkout ?_)
 first|refine Zab (Zaa (id:=0) rfl ?_)|refine Zab (Zab (Zaa (id:=0) rfl ?_))|refine Zaa (id:=0) rfl ?_|refine Zab (Zac rfl (Zab (Zaa (id:=0) rfl ?_)))|refine Zac rfl (Zab (Zaa (id:=0) rfl ?_))
 refine Zgn rfl (fun _=>rfl) rfl rfl ?_
 refine Zgn rfl (fun _=>rfl) rfl rfl ?_
 refine Zad rfl (fun _=>rfl) rfl rfl ?_
 refine Zag ?_
 repeat (first|refine wpg_next ?_|refine wpg_blkout ?_)
 repeat (first|refine wpg_skipc ?_|refine wpg_next ?_|refine wpg_blkout ?_)
 first|refine Zab (Zaa (id:=1) rfl ?_)|refine Zab (Zab (Zaa (id:=1) rfl ?_))|refine Zaa (id:=1) rfl ?_|refine Zab (Zac rfl (Zab (Zaa (id:=1) rfl ?_)))|refine Zac rfl (Zab (Zaa (id:=1) rfl ?_))
 refine Za8 rfl (fun _=>rfl) rfl rfl rfl ?_
 refine Zbr rfl ((hS).mono ?_)
 rintro _ rfl
 refine ZaH rfl rfl ?_
 refine Zad rfl (fun _=>rfl) rfl rfl ?_
 refine Zag ?_
 repeat (first|refine wpg_next ?_|refine wpg_blkout ?_)
 repeat (first|refine wpg_skipc ?_|refine wpg_next ?_|refine wpg_blkout ?_)
 first|refine Zab (Zaa (id:=2) rfl ?_)|refine Zab (Zab (Zaa (id:=2) rfl ?_))|refine Zaa (id:=2) rfl ?_|refine Zab (Zac rfl (Zab (Zaa (id:=2) rfl ?_)))|refine Zac rfl (Zab (Zaa (id:=2) rfl ?_))
 refine Zad rfl (fun _=>rfl) rfl rfl ?_
 refine Zad rfl (fun _=>rfl) rfl rfl ?_
 refine Zag ?_
 repeat (first|refine wpg_next ?_|refine wpg_blkout ?_)
 exact And.intro (fun _=>rfl) (fun h=>by first|(cases h;done)|exact(nf h3' h).elim)
set_option maxHeartbeats 8000000 in
theorem Zgq (A:List (List (List UInt8))) (B C:List (List UInt8)) (ha: ∀r∈A,okS r) (hb:okS B) (hc:okS C):PureOK Tryz.prog Zau 7 [pPV A B C] (fun V=>V= .v .b true):=by
 refine Zaj Zao Tryz.func7 ?_
 have hP:=Zhq A B C ha hb hc
 have hS:=Zio A B C ha hb hc
 have hV:=ZqO A B C ha hb hc
 have hW:=ZoM A B C ha hb hc
 obtain⟨E,eE⟩: ∃x,ZkC A B C=x:=⟨_,rfl⟩
 rw[eE]at hP hS hV hW
 have hx:(!decide (E=E))=false:=ZsG (decide_eq_true rfl)
 have hx2:decide (E=E)=true:=decide_eq_true rfl
 repeat (first|refine wpg_skipc ?_|refine wpg_next ?_|refine wpg_blkout ?_)
 first|refine Zab (Zaa (id:=0) rfl ?_)|refine Zab (Zab (Zaa (id:=0) rfl ?_))|refine Zaa (id:=0) rfl ?_|refine Zab (Zac rfl (Zab (Zaa (id:=0) rfl ?_)))|refine Zac rfl (Zab (Zaa (id:=0) rfl ?_))
 refine Zgn rfl (fun _=>rfl) rfl rfl ?_
 refine Zad rfl (fun _=>rfl) rfl rfl ?_
 refine Zag ?_
 repeat (first|refine wpg_next ?_|refine wpg_blkout ?_)
 refine ZiP.mono ?_
 rintro _ rfl
 refine And.intro (fun h=>nomatch h) (fun _=> ?_)
 repeat (first|refine wpg_skipc ?_|refine wpg_next ?_|refine wpg_blkout ?_)
 first|refine Zab (Zaa (id:=3) rfl ?_)|refine Zab (Zab (Zaa (id:=3) rfl ?_))|refine Zaa (id:=3) rfl ?_|refine Zab (Zac rfl (Zab (Zaa (id:=3) rfl ?_)))|refine Zac rfl (Zab (Zaa (id:=3) rfl ?_))
 refine Za8 rfl (fun _=>rfl) rfl rfl rfl ?_
 refine Zbr rfl ((hP).mono ?_)
 rintro _ rfl
 refine ZaH rfl rfl ?_
 refine Zad rfl (fun _=>rfl) rfl rfl ?_
 refine Zag ?_
 repeat (first|refine wpg_next ?_|refine wpg_blkout ?_)
 repeat (first|refine wpg_skipc ?_|refine wpg_next ?_|refine wpg_blkout ?_)
 first|refine Zab (Zaa (id:=4) rfl ?_)|refine Zab (Zab (Zaa (id:=4) rfl ?_))|refine Zaa (id:=4) rfl ?_|refine Zab (Zac rfl (Zab (Zaa (id:=4) rfl ?_)))|refine Zac rfl (Zab (Zaa (id:=4) rfl ?_))
 refine Za8 rfl (fun _=>rfl) rfl rfl rfl ?_
 refine Zbr rfl ((hS).mono ?_)
 rintro _ rfl
 refine ZaH rfl rfl ?_
 refine Zad rfl (fun _=>rfl) rfl rfl ?_
 refine Zad rfl (fun _=>rfl) rfl rfl ?_
 refine Zag ?_
 repeat (first|refine wpg_next ?_|refine wpg_blkout ?_)
 refine And.intro (fun h=>by first|(cases h;done)|exact(nf h hx).elim) (fun _=> ?_)
 cases h0:decide (E=0)with
 |true=>
  repeat (first|refine wpg_skipc ?_|refine wpg_next ?_|refine wpg_blkout ?_)
  first|refine Zab (Zaa (id:=6) rfl ?_)|refine Zab (Zab (Zaa (id:=6) rfl ?_))|refine Zaa (id:=6) rfl ?_|refine Zab (Zac rfl (Zab (Zaa (id:=6) rfl ?_)))|refine Zac rfl (Zab (Zaa (id:=6) rfl ?_))
  refine Zad rfl (fun _=>rfl) rfl rfl ?_
  refine Zad rfl (fun _=>rfl) rfl rfl ?_
  refine Zag ?_
  repeat (first|refine wpg_next ?_|refine wpg_blkout ?_)
  exact And.intro (fun _=>rfl) (fun h=>by first|(cases h;done)|exact(nf h0 h).elim)
 |false=>
  have hV:=hV h0
  have hW:=hW h0
  repeat (first|refine wpg_skipc ?_|refine wpg_next ?_|refine wpg_blkout ?_)
  first|refine Zab (Zaa (id:=6) rfl ?_)|refine Zab (Zab (Zaa (id:=6) rfl ?_))|refine Zaa (id:=6) rfl ?_|refine Zab (Zac rfl (Zab (Zaa (id:=6) rfl ?_)))|refine Zac rfl (Zab (Zaa (id:=6) rfl ?_))
  refine Zad rfl (fun _=>rfl) rfl rfl ?_
  refine Zad rfl (fun _=>rfl) rfl rfl ?_
  refine Zag ?_
  repeat (first|refine wpg_next ?_|refine wpg_blkout ?_)
  refine And.intro (fun h=>by first|(cases h;done)|exact(nf h h0).elim) (fun _=> ?_)
  repeat (first|refine wpg_skipc ?_|refine wpg_next ?_|refine wpg_blkout ?_)
  first|refine Zab (Zaa (id:=8) rfl ?_)|refine Zab (Zab (Zaa (id:=8) rfl ?_))|refine Zaa (id:=8) rfl ?_|refine Zab (Zac rfl (Zab (Zaa (id:=8) rfl ?_)))|refine Zac rfl (Zab (Zaa (id:=8) rfl ?_))
  refine Za8 rfl (fun _=>rfl) rfl rfl rfl ?_
  refine Zbr rfl ((hV).mono ?_)
  rintro _ rfl
  refine ZaH rfl rfl ?_
  refine Zad rfl (fun _=>rfl) rfl rfl ?_
  refine Zad rfl (fun _=>rfl) rfl rfl ?_
  refine Zad rfl (fun _=>rfl) rfl rfl ?_
  refine Zgn rfl (fun _=>rfl) rfl rfl ?_
  refine Zbr rfl (ZgL rfl rfl rfl rfl rfl rfl rfl rfl ?_)
  refine ZiL rfl ?_
  refine Zad rfl (fun _=>rfl) rfl rfl ?_
  refine Zag ?_
  repeat (first|refine wpg_next ?_|refine wpg_blkout ?_)
  repeat (first|refine wpg_skipc ?_|refine wpg_next ?_|refine wpg_blkout ?_)
  first|refine Zab (Zaa (id:=9) rfl ?_)|refine Zab (Zab (Zaa (id:=9) rfl ?_))|refine Zaa (id:=9) rfl ?_|refine Zab (Zac rfl (Zab (Zaa (id:=9) rfl ?_)))|refine Zac rfl (Zab (Zaa (id:=9) rfl ?_))
  refine Zad rfl (fun _=>rfl) rfl rfl ?_
  refine Zad rfl (fun _=>rfl) rfl rfl ?_
  refine Zad rfl (fun _=>rfl) rfl rfl ?_
  refine Zad rfl (fun _=>rfl) rfl rfl ?_
  refine Zaf rfl rfl rfl hx2 (fun _=>rfl) rfl rfl ?_
  refine ZaR rfl rfl rfl hx2 (fun _=>rfl) rfl rfl rfl ?_
  refine Zaf rfl rfl rfl hx2 (fun _=>rfl) rfl rfl ?_
  refine Zaf rfl rfl rfl hx2 (fun _=>rfl) rfl rfl ?_
  refine ZaR rfl rfl rfl hx2 (fun _=>rfl) rfl rfl rfl ?_
  refine Zaf rfl rfl rfl hx2 (fun _=>rfl) rfl rfl ?_
  refine Zaf rfl rfl rfl hx2 (fun _=>rfl) rfl rfl ?_
  refine Zaf rfl rfl rfl hx2 (fun _=>rfl) rfl rfl ?_
  refine ZaR rfl rfl rfl hx2 (fun _=>rfl) rfl rfl rfl ?_
  refine Zaf rfl rfl rfl hx2 (fun _=>rfl) rfl rfl ?_
  refine Zaf rfl rfl rfl hx2 (fun _=>rfl) rfl rfl ?_
  refine Zaf rfl rfl rfl hx2 (fun _=>rfl) rfl rfl ?_
  refine ZaF rfl rfl rfl hx2 rfl rfl rfl ?_
  refine Zad rfl (fun _=>rfl) rfl rfl ?_
  refine Zaf rfl rfl rfl rfl (fun _=>rfl) rfl rfl ?_
  refine ZaR rfl rfl rfl rfl (fun _=>rfl) rfl rfl rfl ?_
  refine Zaf rfl rfl rfl rfl (fun _=>rfl) rfl rfl ?_
  refine ZaF rfl rfl rfl rfl rfl rfl rfl ?_
  refine Zad rfl (fun _=>rfl) rfl rfl ?_
  refine Zaf rfl rfl rfl rfl (fun _=>rfl) rfl rfl ?_
  refine ZaR rfl rfl rfl rfl (fun _=>rfl) rfl rfl rfl ?_
  refine Zaf rfl rfl rfl rfl (fun _=>rfl) rfl rfl ?_
  refine ZaF rfl rfl rfl rfl rfl rfl rfl ?_
  refine Zad rfl (fun _=>rfl) rfl rfl ?_
  refine ZaR rfl rfl rfl rfl (fun _=>rfl) rfl rfl rfl ?_
  refine ZaR rfl rfl rfl rfl (fun _=>rfl) rfl rfl rfl ?_
  refine ZcH rfl rfl rfl rfl ((hW).mono ?_)
  rintro _ rfl
  refine ZaH rfl rfl ?_
  refine Zaf rfl rfl rfl rfl (fun _=>rfl) rfl rfl ?_
  refine Zaf rfl rfl rfl rfl (fun _=>rfl) rfl rfl ?_
  refine ZaF rfl rfl rfl rfl rfl rfl rfl ?_
  refine Zad rfl (fun _=>rfl) rfl rfl ?_
  refine Zag ?_
  repeat (first|refine wpg_next ?_|refine wpg_blkout ?_)
  exact congrArg (SV.v .b) hx2
end Go.Proofs.YtdnodlkdndfplaaGreatDoor
