/-
 rat.Check, CheckAll.
-/
import Derived.Test.YtdnodlkdndfplaaGreatDoorT20
set_option linter.constructorNameAsVariable false
set_option linter.unusedSimpArgs false
set_option linter.unusedVariables false
namespace Go.Proofs.YtdnodlkdndfplaaGreatDoor
open Go.Am Go.Tx Dv Go.Lib
set_option maxRecDepth 100000
theorem ZpT (a:List UInt8):Zki a [45]=Znm a:=by
 cases a with
 |nil=>rfl
 |cons b l=>
  show(decide (((1:Nat):Int)≤((b::l).length:Int))&&((b::l).take 1==[45]))=(some b==some 45)
  rw[decide_eq_true (by simp only[List.length_cons];omega),Bool.true_and]
  show([b]==[45])=_
  rw[Bool.eq_iff_iff]
  simp
theorem Zto (a:List UInt8):PureOK Tryz.prog Zau 105 [.v .s a, .v .s [45]] (fun V=>V= .v .s (Zhv a)):=by
 refine(Zf1 a [45]).mono ?_
 rintro _ rfl
 rw[ZpT,Zhv]
 cases Znm a<;>rfl
theorem Zta (m n B:Nat) (hm:m<B) (hn:n<B):Nat.gcd m n<B:=by
 rcases Nat.eq_zero_or_pos n with h|h
 ·subst h;rw[Nat.gcd_zero_right];exact hm
 ·exact Nat.lt_of_le_of_lt (Nat.gcd_le_right m h) hn
theorem ZsB {n d:List UInt8} (h:PureOK Tryz.prog Zau 108 [.v .s n, .v .s d] (fun V=>V=rs (ZrJ n d (ZpJ (Nat.gcd (dec n) (dec d)))))) (z1:Zat n=0) (z2:Zat d=0):PureOK Tryz.prog Zau 108 [.v .s n, .v .s d] (fun V=>V=rs (decDigits (Nat.gcd (dec n) (dec d)),0)):=by
 have hE:Zhm n d=0:=by simp only[Zhm,z1,decide_true,z2]
 have e:ZrJ n d (ZpJ (Nat.gcd (dec n) (dec d)))=(decDigits (Nat.gcd (dec n) (dec d)),0):=by
  unfold ZrJ
  rw[decide_eq_true hE,Znf (Zta _ _ _ (ZiI z1) (ZiI z2))]
 rw[e]at h
 exact h
set_option maxHeartbeats 8000000 in
theorem ZqU (a:List UInt8) (hl:a.length≤9223372036854775806):PureOK Tryz.prog Zau 48 [.v .s a] (fun V=>V= .v (.i .i64) (ZbM a)):=by
 refine Zaj Zao Tryz.func48 ?_
 have hT:=Zto a
 obtain⟨ha1,ha2⟩:=ZoN a
 obtain⟨hc1,hc2⟩:=Zn3 (Zhv a) 47
 have hC:=Zt1 (Zhv a) 47 (by omega)
 have hP:=ZfJ a
 have hBad:ZsA a=(rIs a&&(decide (dec (Zmo a)=0)||(decide (dec (Zmo a)=1)|| !decide (Nat.gcd (dec (ZpO a)) (dec (Zmo a))=1)))):=rfl
 have hE2:rE2 a=match rIs a with|true=>Zat (Zmo a)|false=>0:=rfl
 have e1:ZpO a=(Zdl (Zhv a) 47).1:=rfl
 have e2:Zmo a=(Zdl (Zhv a) 47).2.1:=rfl
 have e3:rIs a=(Zdl (Zhv a) 47).2.2:=rfl
 obtain⟨s,hs⟩: ∃s,Zhv a=s:=⟨_,rfl⟩
 obtain⟨⟨n,d,is⟩,hcut⟩: ∃x,Zdl (Zhv a) 47=x:=⟨_,rfl⟩
 rw[hcut]at hC e1 e2 e3 hc1 hc2
 rw[hs]at hC hT ha1 ha2 hc1 hc2
 simp only at e1 e2 e3 hc1 hc2
 rw[e1]at hP hBad
 rw[e2]at hBad hE2
 rw[e3]at hBad hE2
 have hNn:=Zii n (by omega)
 have hNd:=Zii d (by omega)
 have hGc:=ZpX n d (by omega) (by omega)
 obtain⟨m,hm⟩: ∃m,Znm a=m:=⟨_,rfl⟩
 rw[hm]at ha2 hP
 refine hT.mono ?_
 rintro _ rfl
 refine hC.mono ?_
 rintro _ rfl
 refine hNn.mono ?_
 rintro _ rfl
 obtain⟨E1,hE1⟩: ∃x,Zat n=x:=⟨_,rfl⟩
 cases is with
 |false=>
  simp only[Bool.false_and]at hBad hE2
  rw[hBad,hE2,hE1]at hP
  rw[hP,hE1]
  refine And.intro (fun h=>nomatch h) (fun _=> ?_)
  cases b1:decide (E1=5)with
  |true=>
   repeat (first|refine wpg_skipc ?_|refine wpg_next ?_|refine wpg_blkout ?_)
   first|refine Zab (Zaa (id:=6) rfl ?_)|refine Zab (Zab (Zaa (id:=6) rfl ?_))|refine Zaa (id:=6) rfl ?_|refine Zab (Zac rfl (Zab (Zaa (id:=6) rfl ?_)))|refine Zac rfl (Zab (Zaa (id:=6) rfl ?_))
   refine Zad rfl (fun _=>rfl) rfl rfl ?_
   refine Zad rfl (fun _=>rfl) rfl rfl ?_
   refine Zad rfl (fun _=>rfl) rfl rfl ?_
   refine Zae rfl rfl rfl b1 rfl rfl ?_
   refine Zae rfl rfl rfl b1 rfl rfl ?_
   refine ZaF rfl rfl rfl b1 rfl rfl rfl ?_
   refine Zad rfl (fun _=>rfl) rfl rfl ?_
   refine Zae rfl rfl rfl rfl rfl rfl ?_
   refine Zae rfl rfl rfl rfl rfl rfl ?_
   refine Zae rfl rfl rfl rfl rfl rfl ?_
   refine Zam rfl rfl rfl rfl rfl ?_
   refine Zam rfl rfl rfl rfl rfl ?_
   refine Zam rfl rfl rfl rfl rfl ?_
   refine Zam rfl rfl rfl rfl rfl ?_
   refine Zam rfl rfl rfl rfl rfl ?_
   refine Zae rfl rfl rfl rfl rfl rfl ?_
   refine ZaF rfl rfl rfl rfl rfl rfl rfl ?_
   refine Zad rfl (fun _=>rfl) rfl rfl ?_
   refine Zag ?_
   repeat (first|refine wpg_next ?_|refine wpg_blkout ?_)
   refine And.intro (fun _=> ?_) (fun h=>nomatch h)
   simp only[Zfu,b1,Bool.true_or]
   rfl
  |false=>
  cases b3:n==[48]
  rotate_left 1
  repeat (first|refine wpg_skipc ?_|refine wpg_next ?_|refine wpg_blkout ?_)
  first|refine Zab (Zaa (id:=6) rfl ?_)|refine Zab (Zab (Zaa (id:=6) rfl ?_))|refine Zaa (id:=6) rfl ?_|refine Zab (Zac rfl (Zab (Zaa (id:=6) rfl ?_)))|refine Zac rfl (Zab (Zaa (id:=6) rfl ?_))
  refine Zad rfl (fun _=>rfl) rfl rfl ?_
  refine Zad rfl (fun _=>rfl) rfl rfl ?_
  refine Zad rfl (fun _=>rfl) rfl rfl ?_
  refine Zaf rfl rfl rfl b1 (fun _=>rfl) rfl rfl ?_
  refine Zaf rfl rfl rfl b1 (fun _=>rfl) rfl rfl ?_
  refine Zax rfl rfl rfl b1 rfl rfl rfl ?_
  refine Zad rfl (fun _=>rfl) rfl rfl ?_
  refine Zaf rfl rfl rfl rfl (fun _=>rfl) rfl rfl ?_
  refine Zaf rfl rfl rfl rfl (fun _=>rfl) rfl rfl ?_
  refine Zaf rfl rfl rfl rfl (fun _=>rfl) rfl rfl ?_
  refine Zaf rfl rfl rfl b3 (fun _=>rfl) rfl rfl ?_
  refine Zaf rfl rfl rfl b3 (fun _=>rfl) rfl rfl ?_
  refine Zaf rfl rfl rfl b3 (fun _=>rfl) rfl rfl ?_
  refine Zaf rfl rfl rfl b3 (fun _=>rfl) rfl rfl ?_
  refine Zaf rfl rfl rfl b3 (fun _=>rfl) rfl rfl ?_
  refine Zbv rfl rfl rfl rfl rfl rfl b3 rfl rfl rfl ?_
  refine Zax rfl rfl rfl rfl rfl rfl rfl ?_
  refine Zad rfl (fun _=>rfl) rfl rfl ?_
  refine Zag ?_
  repeat (first|refine wpg_next ?_|refine wpg_blkout ?_)
  refine And.intro (fun h=> ?_) (fun h=> ?_)
  ·have h':m=true:=ha2.symm.trans h
   subst h'
   simp only[Zfu,b1]
   rfl
  have h':(true&&m)=false:=ha2.symm.trans h
  rotate_left 1
  repeat (first|refine wpg_skipc ?_|refine wpg_next ?_|refine wpg_blkout ?_)
  first|refine Zab (Zaa (id:=6) rfl ?_)|refine Zab (Zab (Zaa (id:=6) rfl ?_))|refine Zaa (id:=6) rfl ?_|refine Zab (Zac rfl (Zab (Zaa (id:=6) rfl ?_)))|refine Zac rfl (Zab (Zaa (id:=6) rfl ?_))
  refine Zad rfl (fun _=>rfl) rfl rfl ?_
  refine Zad rfl (fun _=>rfl) rfl rfl ?_
  refine Zad rfl (fun _=>rfl) rfl rfl ?_
  refine Zaf rfl rfl rfl b1 (fun _=>rfl) rfl rfl ?_
  refine Zaf rfl rfl rfl b1 (fun _=>rfl) rfl rfl ?_
  refine Zax rfl rfl rfl b1 rfl rfl rfl ?_
  refine Zad rfl (fun _=>rfl) rfl rfl ?_
  refine Zaf rfl rfl rfl rfl (fun _=>rfl) rfl rfl ?_
  refine Zaf rfl rfl rfl rfl (fun _=>rfl) rfl rfl ?_
  refine Zaf rfl rfl rfl rfl (fun _=>rfl) rfl rfl ?_
  refine Zae rfl rfl rfl b3 rfl rfl ?_
  refine Zae rfl rfl rfl b3 rfl rfl ?_
  refine Zae rfl rfl rfl b3 rfl rfl ?_
  refine Zae rfl rfl rfl b3 rfl rfl ?_
  refine Zae rfl rfl rfl b3 rfl rfl ?_
  refine ZcG rfl rfl rfl rfl rfl rfl b3 rfl rfl rfl ?_
  refine Zax rfl rfl rfl rfl rfl rfl rfl ?_
  refine Zad rfl (fun _=>rfl) rfl rfl ?_
  refine Zag ?_
  repeat (first|refine wpg_next ?_|refine wpg_blkout ?_)
  refine And.intro (fun h=>nomatch h) (fun _=> ?_)
  have h':(false&&m)=false:=rfl
  all_goals
   cases b0:decide (E1=0)with
   |false=>
    have hn:(!decide (E1=0))=true:=by rw[b0];rfl
    repeat (first|refine wpg_skipc ?_|refine wpg_next ?_|refine wpg_blkout ?_)
    first|refine Zab (Zaa (id:=8) rfl ?_)|refine Zab (Zab (Zaa (id:=8) rfl ?_))|refine Zaa (id:=8) rfl ?_|refine Zab (Zac rfl (Zab (Zaa (id:=8) rfl ?_)))|refine Zac rfl (Zab (Zaa (id:=8) rfl ?_))
    refine Zad rfl (fun _=>rfl) rfl rfl ?_
    refine Zad rfl (fun _=>rfl) rfl rfl ?_
    refine Zad rfl (fun _=>rfl) rfl rfl ?_
    refine Zae rfl rfl rfl hn rfl rfl ?_
    refine Zae rfl rfl rfl hn rfl rfl ?_
    refine ZaF rfl rfl rfl hn rfl rfl rfl ?_
    refine Zad rfl (fun _=>rfl) rfl rfl ?_
    refine Zag ?_
    repeat (first|refine wpg_next ?_|refine wpg_blkout ?_)
    refine And.intro (fun _=> ?_) (fun h=>by first|(cases h;done)|exact(nf hn h).elim)
    simp only[Zfu,b1,b0,h']
    rfl
   |true=>
    have hn:(!decide (E1=0))=false:=by rw[b0];rfl
    repeat (first|refine wpg_skipc ?_|refine wpg_next ?_|refine wpg_blkout ?_)
    first|refine Zab (Zaa (id:=8) rfl ?_)|refine Zab (Zab (Zaa (id:=8) rfl ?_))|refine Zaa (id:=8) rfl ?_|refine Zab (Zac rfl (Zab (Zaa (id:=8) rfl ?_)))|refine Zac rfl (Zab (Zaa (id:=8) rfl ?_))
    refine Zad rfl (fun _=>rfl) rfl rfl ?_
    refine Zad rfl (fun _=>rfl) rfl rfl ?_
    refine Zad rfl (fun _=>rfl) rfl rfl ?_
    refine Zaf rfl rfl rfl hn (fun _=>rfl) rfl rfl ?_
    refine Zaf rfl rfl rfl hn (fun _=>rfl) rfl rfl ?_
    refine Zax rfl rfl rfl hn rfl rfl rfl ?_
    refine Zad rfl (fun _=>rfl) rfl rfl ?_
    refine Zag ?_
    repeat (first|refine wpg_next ?_|refine wpg_blkout ?_)
    refine And.intro (fun h=>nomatch h) (fun _=> ?_)
    refine And.intro (fun h=>nomatch h) (fun _=> ?_)
    simp only[Zfu,b1,b0,h']
    rfl
 |true=>
  simp only[Bool.true_and]at hBad hE2
  obtain⟨E2,hE2'⟩: ∃x,Zat d=x:=⟨_,rfl⟩
  obtain⟨B,hB⟩: ∃x,ZsA a=x:=⟨_,rfl⟩
  rw[hB]at hBad
  rw[hB,hE2,hE1,hE2']at hP
  rw[hE2']at hNd
  rw[hP,hE1]
  refine And.intro (fun _=> ?_) (fun h=>nomatch h)
  refine hNd.mono ?_
  rintro _ rfl
  cases b1:decide (E1=5)with
  |true=>
   repeat (first|refine wpg_skipc ?_|refine wpg_next ?_|refine wpg_blkout ?_)
   first|refine Zab (Zaa (id:=6) rfl ?_)|refine Zab (Zab (Zaa (id:=6) rfl ?_))|refine Zaa (id:=6) rfl ?_|refine Zab (Zac rfl (Zab (Zaa (id:=6) rfl ?_)))|refine Zac rfl (Zab (Zaa (id:=6) rfl ?_))
   refine Zad rfl (fun _=>rfl) rfl rfl ?_
   refine Zad rfl (fun _=>rfl) rfl rfl ?_
   refine Zad rfl (fun _=>rfl) rfl rfl ?_
   refine Zae rfl rfl rfl b1 rfl rfl ?_
   refine Zae rfl rfl rfl b1 rfl rfl ?_
   refine ZaF rfl rfl rfl b1 rfl rfl rfl ?_
   refine Zad rfl (fun _=>rfl) rfl rfl ?_
   refine Zae rfl rfl rfl rfl rfl rfl ?_
   refine Zae rfl rfl rfl rfl rfl rfl ?_
   refine Zae rfl rfl rfl rfl rfl rfl ?_
   refine Zam rfl rfl rfl rfl rfl ?_
   refine Zam rfl rfl rfl rfl rfl ?_
   refine Zam rfl rfl rfl rfl rfl ?_
   refine Zam rfl rfl rfl rfl rfl ?_
   refine Zam rfl rfl rfl rfl rfl ?_
   refine Zae rfl rfl rfl rfl rfl rfl ?_
   refine ZaF rfl rfl rfl rfl rfl rfl rfl ?_
   refine Zad rfl (fun _=>rfl) rfl rfl ?_
   refine Zag ?_
   repeat (first|refine wpg_next ?_|refine wpg_blkout ?_)
   refine And.intro (fun _=> ?_) (fun h=>nomatch h)
   simp only[Zfu,b1,Bool.true_or]
   rfl
  |false=>
  cases b2:decide (E2=5)with
  |true=>
   repeat (first|refine wpg_skipc ?_|refine wpg_next ?_|refine wpg_blkout ?_)
   first|refine Zab (Zaa (id:=6) rfl ?_)|refine Zab (Zab (Zaa (id:=6) rfl ?_))|refine Zaa (id:=6) rfl ?_|refine Zab (Zac rfl (Zab (Zaa (id:=6) rfl ?_)))|refine Zac rfl (Zab (Zaa (id:=6) rfl ?_))
   refine Zad rfl (fun _=>rfl) rfl rfl ?_
   refine Zad rfl (fun _=>rfl) rfl rfl ?_
   refine Zad rfl (fun _=>rfl) rfl rfl ?_
   refine Zaf rfl rfl rfl b1 (fun _=>rfl) rfl rfl ?_
   refine Zaf rfl rfl rfl b1 (fun _=>rfl) rfl rfl ?_
   refine Zax rfl rfl rfl b1 rfl rfl rfl ?_
   refine Zad rfl (fun _=>rfl) rfl rfl ?_
   refine Zae rfl rfl rfl b2 rfl rfl ?_
   refine Zae rfl rfl rfl b2 rfl rfl ?_
   refine Zae rfl rfl rfl b2 rfl rfl ?_
   refine Zam rfl rfl rfl rfl rfl ?_
   refine Zam rfl rfl rfl rfl rfl ?_
   refine Zam rfl rfl rfl rfl rfl ?_
   refine Zam rfl rfl rfl rfl rfl ?_
   refine Zam rfl rfl rfl rfl rfl ?_
   refine Zae rfl rfl rfl b2 rfl rfl ?_
   refine ZaF rfl rfl rfl b2 rfl rfl rfl ?_
   refine Zad rfl (fun _=>rfl) rfl rfl ?_
   refine Zag ?_
   repeat (first|refine wpg_next ?_|refine wpg_blkout ?_)
   refine And.intro (fun _=> ?_) (fun h=>by first|(cases h;done)|exact(nf b2 h).elim)
   simp only[Zfu,b1,b2]
   rfl
  |false=>
  cases b3:n==[48]
  rotate_left 1
  repeat (first|refine wpg_skipc ?_|refine wpg_next ?_|refine wpg_blkout ?_)
  first|refine Zab (Zaa (id:=6) rfl ?_)|refine Zab (Zab (Zaa (id:=6) rfl ?_))|refine Zaa (id:=6) rfl ?_|refine Zab (Zac rfl (Zab (Zaa (id:=6) rfl ?_)))|refine Zac rfl (Zab (Zaa (id:=6) rfl ?_))
  refine Zad rfl (fun _=>rfl) rfl rfl ?_
  refine Zad rfl (fun _=>rfl) rfl rfl ?_
  refine Zad rfl (fun _=>rfl) rfl rfl ?_
  refine Zaf rfl rfl rfl b1 (fun _=>rfl) rfl rfl ?_
  refine Zaf rfl rfl rfl b1 (fun _=>rfl) rfl rfl ?_
  refine Zax rfl rfl rfl b1 rfl rfl rfl ?_
  refine Zad rfl (fun _=>rfl) rfl rfl ?_
  refine Zaf rfl rfl rfl b2 (fun _=>rfl) rfl rfl ?_
  refine Zaf rfl rfl rfl b2 (fun _=>rfl) rfl rfl ?_
  refine Zaf rfl rfl rfl b2 (fun _=>rfl) rfl rfl ?_
  refine Zaf rfl rfl rfl b3 (fun _=>rfl) rfl rfl ?_
  refine Zaf rfl rfl rfl b3 (fun _=>rfl) rfl rfl ?_
  refine Zaf rfl rfl rfl b3 (fun _=>rfl) rfl rfl ?_
  refine Zaf rfl rfl rfl b3 (fun _=>rfl) rfl rfl ?_
  refine Zaf rfl rfl rfl b3 (fun _=>rfl) rfl rfl ?_
  refine Zbv rfl rfl rfl b2 rfl rfl b3 rfl rfl rfl ?_
  refine Zax rfl rfl rfl b2 rfl rfl rfl ?_
  refine Zad rfl (fun _=>rfl) rfl rfl ?_
  refine Zag ?_
  repeat (first|refine wpg_next ?_|refine wpg_blkout ?_)
  refine And.intro (fun h=> ?_) (fun h=> ?_)
  ·have h':m=true:=ha2.symm.trans h
   subst h'
   simp only[Zfu,b1,b2]
   rfl
  have h':(true&&m)=false:=ha2.symm.trans h
  rotate_left 1
  repeat (first|refine wpg_skipc ?_|refine wpg_next ?_|refine wpg_blkout ?_)
  first|refine Zab (Zaa (id:=6) rfl ?_)|refine Zab (Zab (Zaa (id:=6) rfl ?_))|refine Zaa (id:=6) rfl ?_|refine Zab (Zac rfl (Zab (Zaa (id:=6) rfl ?_)))|refine Zac rfl (Zab (Zaa (id:=6) rfl ?_))
  refine Zad rfl (fun _=>rfl) rfl rfl ?_
  refine Zad rfl (fun _=>rfl) rfl rfl ?_
  refine Zad rfl (fun _=>rfl) rfl rfl ?_
  refine Zaf rfl rfl rfl b1 (fun _=>rfl) rfl rfl ?_
  refine Zaf rfl rfl rfl b1 (fun _=>rfl) rfl rfl ?_
  refine Zax rfl rfl rfl b1 rfl rfl rfl ?_
  refine Zad rfl (fun _=>rfl) rfl rfl ?_
  refine Zaf rfl rfl rfl b2 (fun _=>rfl) rfl rfl ?_
  refine Zaf rfl rfl rfl b2 (fun _=>rfl) rfl rfl ?_
  refine Zaf rfl rfl rfl b2 (fun _=>rfl) rfl rfl ?_
  refine Zae rfl rfl rfl b3 rfl rfl ?_
  refine Zae rfl rfl rfl b3 rfl rfl ?_
  refine Zae rfl rfl rfl b3 rfl rfl ?_
  refine Zae rfl rfl rfl b3 rfl rfl ?_
  refine Zae rfl rfl rfl b3 rfl rfl ?_
  refine ZcG rfl rfl rfl b2 rfl rfl b3 rfl rfl rfl ?_
  refine Zax rfl rfl rfl b2 rfl rfl rfl ?_
  refine Zad rfl (fun _=>rfl) rfl rfl ?_
  refine Zag ?_
  repeat (first|refine wpg_next ?_|refine wpg_blkout ?_)
  refine And.intro (fun h=>by first|(cases h;done)|exact(nf h b3).elim) (fun _=> ?_)
  have h':(false&&m)=false:=rfl
  all_goals
   cases b0:decide (E1=0)with
   |false=>
    have hn:(!decide (E1=0))=true:=by rw[b0];rfl
    repeat (first|refine wpg_skipc ?_|refine wpg_next ?_|refine wpg_blkout ?_)
    first|refine Zab (Zaa (id:=8) rfl ?_)|refine Zab (Zab (Zaa (id:=8) rfl ?_))|refine Zaa (id:=8) rfl ?_|refine Zab (Zac rfl (Zab (Zaa (id:=8) rfl ?_)))|refine Zac rfl (Zab (Zaa (id:=8) rfl ?_))
    refine Zad rfl (fun _=>rfl) rfl rfl ?_
    refine Zad rfl (fun _=>rfl) rfl rfl ?_
    refine Zad rfl (fun _=>rfl) rfl rfl ?_
    refine Zae rfl rfl rfl hn rfl rfl ?_
    refine Zae rfl rfl rfl hn rfl rfl ?_
    refine ZaF rfl rfl rfl hn rfl rfl rfl ?_
    refine Zad rfl (fun _=>rfl) rfl rfl ?_
    refine Zag ?_
    repeat (first|refine wpg_next ?_|refine wpg_blkout ?_)
    refine And.intro (fun _=> ?_) (fun h=>by first|(cases h;done)|exact(nf hn h).elim)
    simp only[Zfu,b1,b2,b0,h']
    rfl
   |true=>
   have hn:(!decide (E1=0))=false:=by rw[b0];rfl
   cases c0:decide (E2=0)with
   |false=>
    have hn2:(!decide (E2=0))=true:=by rw[c0];rfl
    repeat (first|refine wpg_skipc ?_|refine wpg_next ?_|refine wpg_blkout ?_)
    first|refine Zab (Zaa (id:=8) rfl ?_)|refine Zab (Zab (Zaa (id:=8) rfl ?_))|refine Zaa (id:=8) rfl ?_|refine Zab (Zac rfl (Zab (Zaa (id:=8) rfl ?_)))|refine Zac rfl (Zab (Zaa (id:=8) rfl ?_))
    refine Zad rfl (fun _=>rfl) rfl rfl ?_
    refine Zad rfl (fun _=>rfl) rfl rfl ?_
    refine Zad rfl (fun _=>rfl) rfl rfl ?_
    refine Zaf rfl rfl rfl hn (fun _=>rfl) rfl rfl ?_
    refine Zaf rfl rfl rfl hn (fun _=>rfl) rfl rfl ?_
    refine Zax rfl rfl rfl hn rfl rfl rfl ?_
    refine Zad rfl (fun _=>rfl) rfl rfl ?_
    refine Zag ?_
    repeat (first|refine wpg_next ?_|refine wpg_blkout ?_)
    refine And.intro (fun _=> ?_) (fun h=>by first|(cases h;done)|exact(nf hn2 h).elim)
    simp only[Zfu,b1,b2,b0,c0,h']
    rfl
   |true=>
    have hn2:(!decide (E2=0))=false:=by rw[c0];rfl
    repeat (first|refine wpg_skipc ?_|refine wpg_next ?_|refine wpg_blkout ?_)
    first|refine Zab (Zaa (id:=8) rfl ?_)|refine Zab (Zab (Zaa (id:=8) rfl ?_))|refine Zaa (id:=8) rfl ?_|refine Zab (Zac rfl (Zab (Zaa (id:=8) rfl ?_)))|refine Zac rfl (Zab (Zaa (id:=8) rfl ?_))
    refine Zad rfl (fun _=>rfl) rfl rfl ?_
    refine Zad rfl (fun _=>rfl) rfl rfl ?_
    refine Zad rfl (fun _=>rfl) rfl rfl ?_
    refine Zaf rfl rfl rfl hn (fun _=>rfl) rfl rfl ?_
    refine Zaf rfl rfl rfl hn (fun _=>rfl) rfl rfl ?_
    refine Zax rfl rfl rfl hn rfl rfl rfl ?_
    refine Zad rfl (fun _=>rfl) rfl rfl ?_
    refine Zag ?_
    repeat (first|refine wpg_next ?_|refine wpg_blkout ?_)
    refine And.intro (fun h=>by first|(cases h;done)|exact(nf h hn2).elim) (fun _=> ?_)
    refine And.intro (fun _=> ?_) (fun h=>nomatch h)
    have z1:Zat n=0:=hE1.trans (of_decide_eq_true b0)
    have z2:Zat d=0:=hE2'.trans (of_decide_eq_true c0)
    have hGd:=ZsB hGc z1 z2
    obtain⟨cd,_⟩:=ZaU z2
    have q1:=Zun cd
    have q2:=ZtC cd
    have q3:=ZtC (Zcb (Nat.gcd (dec n) (dec d)))
    rw[ZaI]at q3
    obtain⟨g,hg⟩: ∃x,decDigits (Nat.gcd (dec n) (dec d))=x:=⟨_,rfl⟩
    rw[hg]at q3 hGd
    rw[←q1,←q2,←q3]at hBad
    refine hGd.mono ?_
    rintro _ rfl
    cases d1:d==[48]with
    |true=>
     repeat (first|refine wpg_skipc ?_|refine wpg_next ?_|refine wpg_blkout ?_)
     first|refine Zab (Zaa (id:=12) rfl ?_)|refine Zab (Zab (Zaa (id:=12) rfl ?_))|refine Zaa (id:=12) rfl ?_|refine Zab (Zac rfl (Zab (Zaa (id:=12) rfl ?_)))|refine Zac rfl (Zab (Zaa (id:=12) rfl ?_))
     refine Zad rfl (fun _=>rfl) rfl rfl ?_
     refine Zad rfl (fun _=>rfl) rfl rfl ?_
     refine Zad rfl (fun _=>rfl) rfl rfl ?_
     refine Zae rfl rfl rfl d1 rfl rfl ?_
     refine Zae rfl rfl rfl d1 rfl rfl ?_
     refine ZaF rfl rfl rfl d1 rfl rfl rfl ?_
     refine Zad rfl (fun _=>rfl) rfl rfl ?_
     refine Zae rfl rfl rfl rfl rfl rfl ?_
     refine Zae rfl rfl rfl rfl rfl rfl ?_
     refine ZaF rfl rfl rfl rfl rfl rfl rfl ?_
     refine Zag ?_
     repeat (first|refine wpg_next ?_|refine wpg_blkout ?_)
     refine And.intro (fun _=> ?_) (fun h=>nomatch h)
     rw[d1,Bool.true_or]at hBad
     simp only[Zfu,b1,b2,b0,c0,h',hBad]
     rfl
    |false=>
    cases d2:d==[49]with
    |true=>
     repeat (first|refine wpg_skipc ?_|refine wpg_next ?_|refine wpg_blkout ?_)
     first|refine Zab (Zaa (id:=12) rfl ?_)|refine Zab (Zab (Zaa (id:=12) rfl ?_))|refine Zaa (id:=12) rfl ?_|refine Zab (Zac rfl (Zab (Zaa (id:=12) rfl ?_)))|refine Zac rfl (Zab (Zaa (id:=12) rfl ?_))
     refine Zad rfl (fun _=>rfl) rfl rfl ?_
     refine Zad rfl (fun _=>rfl) rfl rfl ?_
     refine Zad rfl (fun _=>rfl) rfl rfl ?_
     refine Zaf rfl rfl rfl d1 (fun _=>rfl) rfl rfl ?_
     refine Zaf rfl rfl rfl d1 (fun _=>rfl) rfl rfl ?_
     refine Zax rfl rfl rfl d1 rfl rfl rfl ?_
     refine Zad rfl (fun _=>rfl) rfl rfl ?_
     refine Zae rfl rfl rfl d2 rfl rfl ?_
     refine Zae rfl rfl rfl d2 rfl rfl ?_
     refine ZaF rfl rfl rfl d2 rfl rfl rfl ?_
     refine Zag ?_
     repeat (first|refine wpg_next ?_|refine wpg_blkout ?_)
     refine And.intro (fun _=> ?_) (fun h=>by first|(cases h;done)|exact(nf d2 h).elim)
     rw[d1,d2,Bool.false_or,Bool.true_or]at hBad
     simp only[Zfu,b1,b2,b0,c0,h',hBad]
     rfl
    |false=>
     repeat (first|refine wpg_skipc ?_|refine wpg_next ?_|refine wpg_blkout ?_)
     first|refine Zab (Zaa (id:=12) rfl ?_)|refine Zab (Zab (Zaa (id:=12) rfl ?_))|refine Zaa (id:=12) rfl ?_|refine Zab (Zac rfl (Zab (Zaa (id:=12) rfl ?_)))|refine Zac rfl (Zab (Zaa (id:=12) rfl ?_))
     refine Zad rfl (fun _=>rfl) rfl rfl ?_
     refine Zad rfl (fun _=>rfl) rfl rfl ?_
     refine Zad rfl (fun _=>rfl) rfl rfl ?_
     refine Zaf rfl rfl rfl d1 (fun _=>rfl) rfl rfl ?_
     refine Zaf rfl rfl rfl d1 (fun _=>rfl) rfl rfl ?_
     refine Zax rfl rfl rfl d1 rfl rfl rfl ?_
     refine Zad rfl (fun _=>rfl) rfl rfl ?_
     refine Zaf rfl rfl rfl d2 (fun _=>rfl) rfl rfl ?_
     refine Zaf rfl rfl rfl d2 (fun _=>rfl) rfl rfl ?_
     refine Zax rfl rfl rfl d2 rfl rfl rfl ?_
     refine Zag ?_
     repeat (first|refine wpg_next ?_|refine wpg_blkout ?_)
     rw[d1,d2,Bool.false_or,Bool.false_or]at hBad
     refine And.intro (fun h=> ?_) (fun h=> ?_)
     ·have h2:(!(g==[49]))=true:=h
      simp only[Zfu,b1,b2,b0,c0,h',hBad,h2]
      rfl
     ·have h2:(!(g==[49]))=false:=h
      simp only[Zfu,b1,b2,b0,c0,h',hBad,h2]
      rfl
end Go.Proofs.YtdnodlkdndfplaaGreatDoor
