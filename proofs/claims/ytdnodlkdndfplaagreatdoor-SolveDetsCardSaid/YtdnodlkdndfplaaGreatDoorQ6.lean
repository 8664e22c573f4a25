/-
 rat.Check, CheckAll.
-/
import Derived.Test.YtdnodlkdndfplaaGreatDoorQ5
set_option linter.constructorNameAsVariable false
set_option linter.unusedSimpArgs false
set_option linter.unusedVariables false
namespace Go.Proofs.YtdnodlkdndfplaaGreatDoor
open Go.Am Go.Tx Dv Go.Lib
set_option maxRecDepth 100000
theorem ZtS (a:List UInt8):ZmE a [45]=ZkC a:=by
 cases a with
 |nil=>rfl
 |cons b l=>
  show(decide (((1:Nat):Int)≤((b::l).length:Int))&&((b::l).take 1==[45]))=(some b==some 45)
  rw[decide_eq_true (by simp only[List.length_cons];omega),Bool.true_and]
  show([b]==[45])=_
  rw[Bool.eq_iff_iff]
  simp
theorem Zzd (a:List UInt8):PureOK Tryz.prog Zaw 105 [.v .s a, .v .s [45]] (fun V=>V= .v .s (Zfx a)):=by
 refine(ZgW a [45]).mono ?_
 rintro _ rfl
 rw[ZtS,Zfx]
 cases ZkC a<;>rfl
theorem Zzl (m n B:Nat) (hm:m<B) (hn:n<B):Nat.gcd m n<B:=by
 rcases Nat.eq_zero_or_pos n with h|h
 ·subst h;rw[Nat.gcd_zero_right];exact hm
 ·exact Nat.lt_of_le_of_lt (Nat.gcd_le_right m h) hn
theorem ZyR {n d:List UInt8} (h:PureOK Tryz.prog Zaw 108 [.v .s n, .v .s d] (fun V=>V=rs (Zxn n d (ZtN (Nat.gcd (dec n) (dec d)))))) (z1:ZaB n=0) (z2:ZaB d=0):PureOK Tryz.prog Zaw 108 [.v .s n, .v .s d] (fun V=>V=rs (decDigits (Nat.gcd (dec n) (dec d)),0)):=by
 have hE:ZiS n d=0:=by simp only[ZiS,z1,decide_true,z2]
 have e:Zxn n d (ZtN (Nat.gcd (dec n) (dec d)))=(decDigits (Nat.gcd (dec n) (dec d)),0):=by
  unfold Zxn
  rw[decide_eq_true hE,ZqA (Zzl _ _ _ (ZjN z1) (ZjN z2))]
 rw[e]at h
 exact h
set_option maxHeartbeats 8000000 in
theorem Zvu (a:List UInt8) (hl:a.length≤9223372036854775806):PureOK Tryz.prog Zaw 48 [.v .s a] (fun V=>V= .v (.i .i64) (ZbG a)):=by
 refine Zak Zal Tryz.func48 ?_
 have hT:=Zzd a
 obtain⟨ha1,ha2⟩:=ZrW a
 obtain⟨hc1,hc2⟩:=ZrD (Zfx a) 47
 have hC:=ZyC (Zfx a) 47 (by omega)
 have hP:=ZgL a
 have hBad:Zwe a=(rIs a&&(decide (dec (Zlt a)=0)||(decide (dec (Zlt a)=1)|| !decide (Nat.gcd (dec (Zfp a)) (dec (Zlt a))=1)))):=rfl
 have hE2:rE2 a=match rIs a with|true=>ZaB (Zlt a)|false=>0:=rfl
 have e1:Zfp a=(Zc0 (Zfx a) 47).1:=rfl
 have e2:Zlt a=(Zc0 (Zfx a) 47).2.1:=rfl
 have e3:rIs a=(Zc0 (Zfx a) 47).2.2:=rfl
 obtain⟨s,hs⟩: ∃s,Zfx a=s:=⟨_,rfl⟩
 obtain⟨⟨n,d,is⟩,hcut⟩: ∃x,Zc0 (Zfx a) 47=x:=⟨_,rfl⟩
 rw[hcut]at hC e1 e2 e3 hc1 hc2
 rw[hs]at hC hT ha1 ha2 hc1 hc2
 simp only at e1 e2 e3 hc1 hc2
 rw[e1]at hP hBad
 rw[e2]at hBad hE2
 rw[e3]at hBad hE2
 have hNn:=Zk0 n (by omega)
 have hNd:=Zk0 d (by omega)
 have hGc:=Zvy n d (by omega) (by omega)
 obtain⟨m,hm⟩: ∃m,ZkC a=m:=⟨_,rfl⟩
 rw[hm]at ha2 hP
 refine hT.mono ?_
 rintro _ rfl
 refine hC.mono ?_
 rintro _ rfl
 refine hNn.mono ?_
 rintro _ rfl
 obtain⟨E1,hE1⟩: ∃x,ZaB n=x:=⟨_,rfl⟩
 cases is with
 |false=>
  simp only[Bool.false_and]at hBad hE2
  rw[hBad,hE2,hE1]at hP
  rw[hP,hE1]
  refine And.intro (fun h=>nomatch h) (fun _=> ?_)
  cases b1:decide (E1=5)with
  |true=>
   repeat (first|refine Zag ?_|refine Zae ?_|refine Zad ?_)
   first|refine Zab (Zaa (id:=6) rfl ?_)|refine Zab (Zab (Zaa (id:=6) rfl ?_))|refine Zaa (id:=6) rfl ?_|refine Zab (Zac rfl (Zab (Zaa (id:=6) rfl ?_)))|refine Zac rfl (Zab (Zaa (id:=6) rfl ?_))|refine Zab (Zac rfl (Zaa (id:=6) rfl ?_))|refine Zac rfl (Zaa (id:=6) rfl ?_)
   refine Zaf rfl (fun _=>rfl) rfl rfl ?_
   refine Zaf rfl (fun _=>rfl) rfl rfl ?_
   refine Zaf rfl (fun _=>rfl) rfl rfl ?_
   refine Zai rfl rfl rfl b1 rfl rfl ?_
   refine Zai rfl rfl rfl b1 rfl rfl ?_
   refine ZaJ rfl rfl rfl b1 rfl rfl rfl ?_
   refine Zaf rfl (fun _=>rfl) rfl rfl ?_
   refine Zai rfl rfl rfl rfl rfl rfl ?_
   refine Zai rfl rfl rfl rfl rfl rfl ?_
   refine Zai rfl rfl rfl rfl rfl rfl ?_
   refine Zay rfl rfl rfl rfl rfl ?_
   refine Zay rfl rfl rfl rfl rfl ?_
   refine Zay rfl rfl rfl rfl rfl ?_
   refine Zay rfl rfl rfl rfl rfl ?_
   refine Zay rfl rfl rfl rfl rfl ?_
   refine Zai rfl rfl rfl rfl rfl rfl ?_
   refine ZaJ rfl rfl rfl rfl rfl rfl rfl ?_
   refine Zaf rfl (fun _=>rfl) rfl rfl ?_
   refine Zah ?_
   repeat (first|refine Zae ?_|refine Zad ?_)
   refine And.intro (fun _=> ?_) (fun h=>nomatch h)
   simp only[ZgD,b1,Bool.true_or]
   rfl
  |false=>
  cases b3:n==[48]
  rotate_left 1
  repeat (first|refine Zag ?_|refine Zae ?_|refine Zad ?_)
  first|refine Zab (Zaa (id:=6) rfl ?_)|refine Zab (Zab (Zaa (id:=6) rfl ?_))|refine Zaa (id:=6) rfl ?_|refine Zab (Zac rfl (Zab (Zaa (id:=6) rfl ?_)))|refine Zac rfl (Zab (Zaa (id:=6) rfl ?_))|refine Zab (Zac rfl (Zaa (id:=6) rfl ?_))|refine Zac rfl (Zaa (id:=6) rfl ?_)
  refine Zaf rfl (fun _=>rfl) rfl rfl ?_
  refine Zaf rfl (fun _=>rfl) rfl rfl ?_
  refine Zaf rfl (fun _=>rfl) rfl rfl ?_
  refine Zaj rfl rfl rfl b1 (fun _=>rfl) rfl rfl ?_
  refine Zaj rfl rfl rfl b1 (fun _=>rfl) rfl rfl ?_
  refine ZaC rfl rfl rfl b1 rfl rfl rfl ?_
  refine Zaf rfl (fun _=>rfl) rfl rfl ?_
  refine Zaj rfl rfl rfl rfl (fun _=>rfl) rfl rfl ?_
  refine Zaj rfl rfl rfl rfl (fun _=>rfl) rfl rfl ?_
  refine Zaj rfl rfl rfl rfl (fun _=>rfl) rfl rfl ?_
  refine Zaj rfl rfl rfl b3 (fun _=>rfl) rfl rfl ?_
  refine Zaj rfl rfl rfl b3 (fun _=>rfl) rfl rfl ?_
  refine Zaj rfl rfl rfl b3 (fun _=>rfl) rfl rfl ?_
  refine Zaj rfl rfl rfl b3 (fun _=>rfl) rfl rfl ?_
  refine Zaj rfl rfl rfl b3 (fun _=>rfl) rfl rfl ?_
  refine ZcI rfl rfl rfl rfl rfl rfl b3 rfl rfl rfl ?_
  refine ZaC rfl rfl rfl rfl rfl rfl rfl ?_
  refine Zaf rfl (fun _=>rfl) rfl rfl ?_
  refine Zah ?_
  repeat (first|refine Zae ?_|refine Zad ?_)
  refine And.intro (fun h=> ?_) (fun h=> ?_)
  ·have h':m=true:=ha2.symm.trans h
   subst h'
   simp only[ZgD,b1]
   rfl
  have h':(true&&m)=false:=ha2.symm.trans h
  rotate_left 1
  repeat (first|refine Zag ?_|refine Zae ?_|refine Zad ?_)
  first|refine Zab (Zaa (id:=6) rfl ?_)|refine Zab (Zab (Zaa (id:=6) rfl ?_))|refine Zaa (id:=6) rfl ?_|refine Zab (Zac rfl (Zab (Zaa (id:=6) rfl ?_)))|refine Zac rfl (Zab (Zaa (id:=6) rfl ?_))|refine Zab (Zac rfl (Zaa (id:=6) rfl ?_))|refine Zac rfl (Zaa (id:=6) rfl ?_)
  refine Zaf rfl (fun _=>rfl) rfl rfl ?_
  refine Zaf rfl (fun _=>rfl) rfl rfl ?_
  refine Zaf rfl (fun _=>rfl) rfl rfl ?_
  refine Zaj rfl rfl rfl b1 (fun _=>rfl) rfl rfl ?_
  refine Zaj rfl rfl rfl b1 (fun _=>rfl) rfl rfl ?_
  refine ZaC rfl rfl rfl b1 rfl rfl rfl ?_
  refine Zaf rfl (fun _=>rfl) rfl rfl ?_
  refine Zaj rfl rfl rfl rfl (fun _=>rfl) rfl rfl ?_
  refine Zaj rfl rfl rfl rfl (fun _=>rfl) rfl rfl ?_
  refine Zaj rfl rfl rfl rfl (fun _=>rfl) rfl rfl ?_
  refine Zai rfl rfl rfl b3 rfl rfl ?_
  refine Zai rfl rfl rfl b3 rfl rfl ?_
  refine Zai rfl rfl rfl b3 rfl rfl ?_
  refine Zai rfl rfl rfl b3 rfl rfl ?_
  refine Zai rfl rfl rfl b3 rfl rfl ?_
  refine Zes rfl rfl rfl rfl rfl rfl b3 rfl rfl rfl ?_
  refine ZaC rfl rfl rfl rfl rfl rfl rfl ?_
  refine Zaf rfl (fun _=>rfl) rfl rfl ?_
  refine Zah ?_
  repeat (first|refine Zae ?_|refine Zad ?_)
  refine And.intro (fun h=>nomatch h) (fun _=> ?_)
  have h':(false&&m)=false:=rfl
  all_goals
   cases b0:decide (E1=0)with
   |false=>
    have hn:(!decide (E1=0))=true:=by rw[b0];rfl
    repeat (first|refine Zag ?_|refine Zae ?_|refine Zad ?_)
    first|refine Zab (Zaa (id:=8) rfl ?_)|refine Zab (Zab (Zaa (id:=8) rfl ?_))|refine Zaa (id:=8) rfl ?_|refine Zab (Zac rfl (Zab (Zaa (id:=8) rfl ?_)))|refine Zac rfl (Zab (Zaa (id:=8) rfl ?_))|refine Zab (Zac rfl (Zaa (id:=8) rfl ?_))|refine Zac rfl (Zaa (id:=8) rfl ?_)
    refine Zaf rfl (fun _=>rfl) rfl rfl ?_
    refine Zaf rfl (fun _=>rfl) rfl rfl ?_
    refine Zaf rfl (fun _=>rfl) rfl rfl ?_
    refine Zai rfl rfl rfl hn rfl rfl ?_
    refine Zai rfl rfl rfl hn rfl rfl ?_
    refine ZaJ rfl rfl rfl hn rfl rfl rfl ?_
    refine Zaf rfl (fun _=>rfl) rfl rfl ?_
    refine Zah ?_
    repeat (first|refine Zae ?_|refine Zad ?_)
    refine And.intro (fun _=> ?_) (fun h=>by first|(cases h;done)|exact(nf hn h).elim)
    simp only[ZgD,b1,b0,h']
    rfl
   |true=>
    have hn:(!decide (E1=0))=false:=by rw[b0];rfl
    repeat (first|refine Zag ?_|refine Zae ?_|refine Zad ?_)
    first|refine Zab (Zaa (id:=8) rfl ?_)|refine Zab (Zab (Zaa (id:=8) rfl ?_))|refine Zaa (id:=8) rfl ?_|refine Zab (Zac rfl (Zab (Zaa (id:=8) rfl ?_)))|refine Zac rfl (Zab (Zaa (id:=8) rfl ?_))|refine Zab (Zac rfl (Zaa (id:=8) rfl ?_))|refine Zac rfl (Zaa (id:=8) rfl ?_)
    refine Zaf rfl (fun _=>rfl) rfl rfl ?_
    refine Zaf rfl (fun _=>rfl) rfl rfl ?_
    refine Zaf rfl (fun _=>rfl) rfl rfl ?_
    refine Zaj rfl rfl rfl hn (fun _=>rfl) rfl rfl ?_
    refine Zaj rfl rfl rfl hn (fun _=>rfl) rfl rfl ?_
    refine ZaC rfl rfl rfl hn rfl rfl rfl ?_
    refine Zaf rfl (fun _=>rfl) rfl rfl ?_
    refine Zah ?_
    repeat (first|refine Zae ?_|refine Zad ?_)
    refine And.intro (fun h=>nomatch h) (fun _=> ?_)
    refine And.intro (fun h=>nomatch h) (fun _=> ?_)
    simp only[ZgD,b1,b0,h']
    rfl
 |true=>
  simp only[Bool.true_and]at hBad hE2
  obtain⟨E2,hE2'⟩: ∃x,ZaB d=x:=⟨_,rfl⟩
  obtain⟨B,hB⟩: ∃x,Zwe a=x:=⟨_,rfl⟩
  rw[hB]at hBad
  rw[hB,hE2,hE1,hE2']at hP
  rw[hE2']at hNd
  rw[hP,hE1]
  refine And.intro (fun _=> ?_) (fun h=>nomatch h)
  refine hNd.mono ?_
  rintro _ rfl
  cases b1:decide (E1=5)with
  |true=>
   repeat (first|refine Zag ?_|refine Zae ?_|refine Zad ?_)
   first|refine Zab (Zaa (id:=6) rfl ?_)|refine Zab (Zab (Zaa (id:=6) rfl ?_))|refine Zaa (id:=6) rfl ?_|refine Zab (Zac rfl (Zab (Zaa (id:=6) rfl ?_)))|refine Zac rfl (Zab (Zaa (id:=6) rfl ?_))|refine Zab (Zac rfl (Zaa (id:=6) rfl ?_))|refine Zac rfl (Zaa (id:=6) rfl ?_)
   refine Zaf rfl (fun _=>rfl) rfl rfl ?_
   refine Zaf rfl (fun _=>rfl) rfl rfl ?_
   refine Zaf rfl (fun _=>rfl) rfl rfl ?_
   refine Zai rfl rfl rfl b1 rfl rfl ?_
   refine Zai rfl rfl rfl b1 rfl rfl ?_
   refine ZaJ rfl rfl rfl b1 rfl rfl rfl ?_
   refine Zaf rfl (fun _=>rfl) rfl rfl ?_
   refine Zai rfl rfl rfl rfl rfl rfl ?_
   refine Zai rfl rfl rfl rfl rfl rfl ?_
   refine Zai rfl rfl rfl rfl rfl rfl ?_
   refine Zay rfl rfl rfl rfl rfl ?_
   refine Zay rfl rfl rfl rfl rfl ?_
   refine Zay rfl rfl rfl rfl rfl ?_
   refine Zay rfl rfl rfl rfl rfl ?_
   refine Zay rfl rfl rfl rfl rfl ?_
   refine Zai rfl rfl rfl rfl rfl rfl ?_
   refine ZaJ rfl rfl rfl rfl rfl rfl rfl ?_
   refine Zaf rfl (fun _=>rfl) rfl rfl ?_
   refine Zah ?_
   repeat (first|refine Zae ?_|refine Zad ?_)
   refine And.intro (fun _=> ?_) (fun h=>nomatch h)
   simp only[ZgD,b1,Bool.true_or]
   rfl
  |false=>
  cases b2:decide (E2=5)with
  |true=>
   repeat (first|refine Zag ?_|refine Zae ?_|refine Zad ?_)
   first|refine Zab (Zaa (id:=6) rfl ?_)|refine Zab (Zab (Zaa (id:=6) rfl ?_))|refine Zaa (id:=6) rfl ?_|refine Zab (Zac rfl (Zab (Zaa (id:=6) rfl ?_)))|refine Zac rfl (Zab (Zaa (id:=6) rfl ?_))|refine Zab (Zac rfl (Zaa (id:=6) rfl ?_))|refine Zac rfl (Zaa (id:=6) rfl ?_)
   refine Zaf rfl (fun _=>rfl) rfl rfl ?_
   refine Zaf rfl (fun _=>rfl) rfl rfl ?_
   refine Zaf rfl (fun _=>rfl) rfl rfl ?_
   refine Zaj rfl rfl rfl b1 (fun _=>rfl) rfl rfl ?_
   refine Zaj rfl rfl rfl b1 (fun _=>rfl) rfl rfl ?_
   refine ZaC rfl rfl rfl b1 rfl rfl rfl ?_
   refine Zaf rfl (fun _=>rfl) rfl rfl ?_
   refine Zai rfl rfl rfl b2 rfl rfl ?_
   refine Zai rfl rfl rfl b2 rfl rfl ?_
   refine Zai rfl rfl rfl b2 rfl rfl ?_
   refine Zay rfl rfl rfl rfl rfl ?_
   refine Zay rfl rfl rfl rfl rfl ?_
   refine Zay rfl rfl rfl rfl rfl ?_
   refine Zay rfl rfl rfl rfl rfl ?_
   refine Zay rfl rfl rfl rfl rfl ?_
   refine Zai rfl rfl rfl b2 rfl rfl ?_
   refine ZaJ rfl rfl rfl b2 rfl rfl rfl ?_
   refine Zaf rfl (fun _=>rfl) rfl rfl ?_
   refine Zah ?_
   repeat (first|refine Zae ?_|refine Zad ?_)
   refine And.intro (fun _=> ?_) (fun h=>by first|(cases h;done)|exact(nf b2 h).elim)
   simp only[ZgD,b1,b2]
   rfl
  |false=>
  cases b3:n==[48]
  rotate_left 1
  repeat (first|refine Zag ?_|refine Zae ?_|refine Zad ?_)
  first|refine Zab (Zaa (id:=6) rfl ?_)|refine Zab (Zab (Zaa (id:=6) rfl ?_))|refine Zaa (id:=6) rfl ?_|refine Zab (Zac rfl (Zab (Zaa (id:=6) rfl ?_)))|refine Zac rfl (Zab (Zaa (id:=6) rfl ?_))|refine Zab (Zac rfl (Zaa (id:=6) rfl ?_))|refine Zac rfl (Zaa (id:=6) rfl ?_)
  refine Zaf rfl (fun _=>rfl) rfl rfl ?_
  refine Zaf rfl (fun _=>rfl) rfl rfl ?_
  refine Zaf rfl (fun _=>rfl) rfl rfl ?_
  refine Zaj rfl rfl rfl b1 (fun _=>rfl) rfl rfl ?_
  refine Zaj rfl rfl rfl b1 (fun _=>rfl) rfl rfl ?_
  refine ZaC rfl rfl rfl b1 rfl rfl rfl ?_
  refine Zaf rfl (fun _=>rfl) rfl rfl ?_
  refine Zaj rfl rfl rfl b2 (fun _=>rfl) rfl rfl ?_
  refine Zaj rfl rfl rfl b2 (fun _=>rfl) rfl rfl ?_
  refine Zaj rfl rfl rfl b2 (fun _=>rfl) rfl rfl ?_
  refine Zaj rfl rfl rfl b3 (fun _=>rfl) rfl rfl ?_
  refine Zaj rfl rfl rfl b3 (fun _=>rfl) rfl rfl ?_
  refine Zaj rfl rfl rfl b3 (fun _=>rfl) rfl rfl ?_
  refine Zaj rfl rfl rfl b3 (fun _=>rfl) rfl rfl ?_
  refine Zaj rfl rfl rfl b3 (fun _=>rfl) rfl rfl ?_
  refine ZcI rfl rfl rfl b2 rfl rfl b3 rfl rfl rfl ?_
  refine ZaC rfl rfl rfl b2 rfl rfl rfl ?_
  refine Zaf rfl (fun _=>rfl) rfl rfl ?_
  refine Zah ?_
  repeat (first|refine Zae ?_|refine Zad ?_)
  refine And.intro (fun h=> ?_) (fun h=> ?_)
  ·have h':m=true:=ha2.symm.trans h
   subst h'
   simp only[ZgD,b1,b2]
   rfl
  have h':(true&&m)=false:=ha2.symm.trans h
  rotate_left 1
  repeat (first|refine Zag ?_|refine Zae ?_|refine Zad ?_)
  first|refine Zab (Zaa (id:=6) rfl ?_)|refine Zab (Zab (Zaa (id:=6) rfl ?_))|refine Zaa (id:=6) rfl ?_|refine Zab (Zac rfl (Zab (Zaa (id:=6) rfl ?_)))|refine Zac rfl (Zab (Zaa (id:=6) rfl ?_))|refine Zab (Zac rfl (Zaa (id:=6) rfl ?_))|refine Zac rfl (Zaa (id:=6) rfl ?_)
  refine Zaf rfl (fun _=>rfl) rfl rfl ?_
  refine Zaf rfl (fun _=>rfl) rfl rfl ?_
  refine Zaf rfl (fun _=>rfl) rfl rfl ?_
  refine Zaj rfl rfl rfl b1 (fun _=>rfl) rfl rfl ?_
  refine Zaj rfl rfl rfl b1 (fun _=>rfl) rfl rfl ?_
  refine ZaC rfl rfl rfl b1 rfl rfl rfl ?_
  refine Zaf rfl (fun _=>rfl) rfl rfl ?_
  refine Zaj rfl rfl rfl b2 (fun _=>rfl) rfl rfl ?_
  refine Zaj rfl rfl rfl b2 (fun _=>rfl) rfl rfl ?_
  refine Zaj rfl rfl rfl b2 (fun _=>rfl) rfl rfl ?_
  refine Zai rfl rfl rfl b3 rfl rfl ?_
  refine Zai rfl rfl rfl b3 rfl rfl ?_
  refine Zai rfl rfl rfl b3 rfl rfl ?_
  refine Zai rfl rfl rfl b3 rfl rfl ?_
  refine Zai rfl rfl rfl b3 rfl rfl ?_
  refine Zes rfl rfl rfl b2 rfl rfl b3 rfl rfl rfl ?_
  refine ZaC rfl rfl rfl b2 rfl rfl rfl ?_
  refine Zaf rfl (fun _=>rfl) rfl rfl ?_
  refine Zah ?_
  repeat (first|refine Zae ?_|refine Zad ?_)
  refine And.intro (fun h=>by first|(cases h;done)|exact(nf h b3).elim) (fun _=> ?_)
  have h':(false&&m)=false:=rfl
  all_goals
   cases b0:decide (E1=0)with
   |false=>
    have hn:(!decide (E1=0))=true:=by rw[b0];rfl
    repeat (first|refine Zag ?_|refine Zae ?_|refine Zad ?_)
    first|refine Zab (Zaa (id:=8) rfl ?_)|refine Zab (Zab (Zaa (id:=8) rfl ?_))|refine Zaa (id:=8) rfl ?_|refine Zab (Zac rfl (Zab (Zaa (id:=8) rfl ?_)))|refine Zac rfl (Zab (Zaa (id:=8) rfl ?_))|refine Zab (Zac rfl (Zaa (id:=8) rfl ?_))|refine Zac rfl (Zaa (id:=8) rfl ?_)
    refine Zaf rfl (fun _=>rfl) rfl rfl ?_
    refine Zaf rfl (fun _=>rfl) rfl rfl ?_
    refine Zaf rfl (fun _=>rfl) rfl rfl ?_
    refine Zai rfl rfl rfl hn rfl rfl ?_
    refine Zai rfl rfl rfl hn rfl rfl ?_
    refine ZaJ rfl rfl rfl hn rfl rfl rfl ?_
    refine Zaf rfl (fun _=>rfl) rfl rfl ?_
    refine Zah ?_
    repeat (first|refine Zae ?_|refine Zad ?_)
    refine And.intro (fun _=> ?_) (fun h=>by first|(cases h;done)|exact(nf hn h).elim)
    simp only[ZgD,b1,b2,b0,h']
    rfl
   |true=>
   have hn:(!decide (E1=0))=false:=by rw[b0];rfl
   cases c0:decide (E2=0)with
   |false=>
    have hn2:(!decide (E2=0))=true:=by rw[c0];rfl
    repeat (first|refine Zag ?_|refine Zae ?_|refine Zad ?_)
    first|refine Zab (Zaa (id:=8) rfl ?_)|refine Zab (Zab (Zaa (id:=8) rfl ?_))|refine Zaa (id:=8) rfl ?_|refine Zab (Zac rfl (Zab (Zaa (id:=8) rfl ?_)))|refine Zac rfl (Zab (Zaa (id:=8) rfl ?_))|refine Zab (Zac rfl (Zaa (id:=8) rfl ?_))|refine Zac rfl (Zaa (id:=8) rfl ?_)
    refine Zaf rfl (fun _=>rfl) rfl rfl ?_
    refine Zaf rfl (fun _=>rfl) rfl rfl ?_
    refine Zaf rfl (fun _=>rfl) rfl rfl ?_
    refine Zaj rfl rfl rfl hn (fun _=>rfl) rfl rfl ?_
    refine Zaj rfl rfl rfl hn (fun _=>rfl) rfl rfl ?_
    refine ZaC rfl rfl rfl hn rfl rfl rfl ?_
    refine Zaf rfl (fun _=>rfl) rfl rfl ?_
    refine Zah ?_
    repeat (first|refine Zae ?_|refine Zad ?_)
    refine And.intro (fun _=> ?_) (fun h=>by first|(cases h;done)|exact(nf hn2 h).elim)
    simp only[ZgD,b1,b2,b0,c0,h']
    rfl
   |true=>
    have hn2:(!decide (E2=0))=false:=by rw[c0];rfl
    repeat (first|refine Zag ?_|refine Zae ?_|refine Zad ?_)
    first|refine Zab (Zaa (id:=8) rfl ?_)|refine Zab (Zab (Zaa (id:=8) rfl ?_))|refine Zaa (id:=8) rfl ?_|refine Zab (Zac rfl (Zab (Zaa (id:=8) rfl ?_)))|refine Zac rfl (Zab (Zaa (id:=8) rfl ?_))|refine Zab (Zac rfl (Zaa (id:=8) rfl ?_))|refine Zac rfl (Zaa (id:=8) rfl ?_)
    refine Zaf rfl (fun _=>rfl) rfl rfl ?_
    refine Zaf rfl (fun _=>rfl) rfl rfl ?_
    refine Zaf rfl (fun _=>rfl) rfl rfl ?_
    refine Zaj rfl rfl rfl hn (fun _=>rfl) rfl rfl ?_
    refine Zaj rfl rfl rfl hn (fun _=>rfl) rfl rfl ?_
    refine ZaC rfl rfl rfl hn rfl rfl rfl ?_
    refine Zaf rfl (fun _=>rfl) rfl rfl ?_
    refine Zah ?_
    repeat (first|refine Zae ?_|refine Zad ?_)
    refine And.intro (fun h=>by first|(cases h;done)|exact(nf h hn2).elim) (fun _=> ?_)
    refine And.intro (fun _=> ?_) (fun h=>nomatch h)
    have z1:ZaB n=0:=hE1.trans (of_decide_eq_true b0)
    have z2:ZaB d=0:=hE2'.trans (of_decide_eq_true c0)
    have hGd:=ZyR hGc z1 z2
    obtain⟨cd,_⟩:=Za2 z2
    have q1:=ZAv cd
    have q2:=Zya cd
    have q3:=Zya (Za3 (Nat.gcd (dec n) (dec d)))
    rw[Zat]at q3
    obtain⟨g,hg⟩: ∃x,decDigits (Nat.gcd (dec n) (dec d))=x:=⟨_,rfl⟩
    rw[hg]at q3 hGd
    rw[←q1,←q2,←q3]at hBad
    refine hGd.mono ?_
    rintro _ rfl
    cases d1:d==[48]with
    |true=>
     repeat (first|refine Zag ?_|refine Zae ?_|refine Zad ?_)
     first|refine Zab (Zaa (id:=12) rfl ?_)|refine Zab (Zab (Zaa (id:=12) rfl ?_))|refine Zaa (id:=12) rfl ?_|refine Zab (Zac rfl (Zab (Zaa (id:=12) rfl ?_)))|refine Zac rfl (Zab (Zaa (id:=12) rfl ?_))|refine Zab (Zac rfl (Zaa (id:=12) rfl ?_))|refine Zac rfl (Zaa (id:=12) rfl ?_)
     refine Zaf rfl (fun _=>rfl) rfl rfl ?_
     refine Zaf rfl (fun _=>rfl) rfl rfl ?_
     refine Zaf rfl (fun _=>rfl) rfl rfl ?_
     refine Zai rfl rfl rfl d1 rfl rfl ?_
     refine Zai rfl rfl rfl d1 rfl rfl ?_
     refine ZaJ rfl rfl rfl d1 rfl rfl rfl ?_
     refine Zaf rfl (fun _=>rfl) rfl rfl ?_
     refine Zai rfl rfl rfl rfl rfl rfl ?_
     refine Zai rfl rfl rfl rfl rfl rfl ?_
     refine ZaJ rfl rfl rfl rfl rfl rfl rfl ?_
     refine Zah ?_
     repeat (first|refine Zae ?_|refine Zad ?_)
     refine And.intro (fun _=> ?_) (fun h=>nomatch h)
     rw[d1,Bool.true_or]at hBad
     simp only[ZgD,b1,b2,b0,c0,h',hBad]
     rfl
    |false=>
    cases d2:d==[49]with
    |true=>
     repeat (first|refine Zag ?_|refine Zae ?_|refine Zad ?_)
     first|refine Zab (Zaa (id:=12) rfl ?_)|refine Zab (Zab (Zaa (id:=12) rfl ?_))|refine Zaa (id:=12) rfl ?_|refine Zab (Zac rfl (Zab (Zaa (id:=12) rfl ?_)))|refine Zac rfl (Zab (Zaa (id:=12) rfl ?_))|refine Zab (Zac rfl (Zaa (id:=12) rfl ?_))|refine Zac rfl (Zaa (id:=12) rfl ?_)
     refine Zaf rfl (fun _=>rfl) rfl rfl ?_
     refine Zaf rfl (fun _=>rfl) rfl rfl ?_
     refine Zaf rfl (fun _=>rfl) rfl rfl ?_
     refine Zaj rfl rfl rfl d1 (fun _=>rfl) rfl rfl ?_
     refine Zaj rfl rfl rfl d1 (fun _=>rfl) rfl rfl ?_
     refine ZaC rfl rfl rfl d1 rfl rfl rfl ?_
     refine Zaf rfl (fun _=>rfl) rfl rfl ?_
     refine Zai rfl rfl rfl d2 rfl rfl ?_
     refine Zai rfl rfl rfl d2 rfl rfl ?_
     refine ZaJ rfl rfl rfl d2 rfl rfl rfl ?_
     refine Zah ?_
     repeat (first|refine Zae ?_|refine Zad ?_)
     refine And.intro (fun _=> ?_) (fun h=>by first|(cases h;done)|exact(nf d2 h).elim)
     rw[d1,d2,Bool.false_or,Bool.true_or]at hBad
     simp only[ZgD,b1,b2,b0,c0,h',hBad]
     rfl
    |false=>
     repeat (first|refine Zag ?_|refine Zae ?_|refine Zad ?_)
     first|refine Zab (Zaa (id:=12) rfl ?_)|refine Zab (Zab (Zaa (id:=12) rfl ?_))|refine Zaa (id:=12) rfl ?_|refine Zab (Zac rfl (Zab (Zaa (id:=12) rfl ?_)))|refine Zac rfl (Zab (Zaa (id:=12) rfl ?_))|refine Zab (Zac rfl (Zaa (id:=12) rfl ?_))|refine Zac rfl (Zaa (id:=12) rfl ?_)
     refine Zaf rfl (fun _=>rfl) rfl rfl ?_
     refine Zaf rfl (fun _=>rfl) rfl rfl ?_
     refine Zaf rfl (fun _=>rfl) rfl rfl ?_
     refine Zaj rfl rfl rfl d1 (fun _=>rfl) rfl rfl ?_
     refine Zaj rfl rfl rfl d1 (fun _=>rfl) rfl rfl ?_
     refine ZaC rfl rfl rfl d1 rfl rfl rfl ?_
     refine Zaf rfl (fun _=>rfl) rfl rfl ?_
     refine Zaj rfl rfl rfl d2 (fun _=>rfl) rfl rfl ?_
     refine Zaj rfl rfl rfl d2 (fun _=>rfl) rfl rfl ?_
     refine ZaC rfl rfl rfl d2 rfl rfl rfl ?_
     refine Zah ?_
     repeat (first|refine Zae ?_|refine Zad ?_)
     rw[d1,d2,Bool.false_or,Bool.false_or]at hBad
     refine And.intro (fun h=> ?_) (fun h=> ?_)
     ·have h2:(!(g==[49]))=true:=h
      simp only[ZgD,b1,b2,b0,c0,h',hBad,h2]
      rfl
     ·have h2:(!(g==[49]))=false:=h
      simp only[ZgD,b1,b2,b0,c0,h',hBad,h2]
      rfl
end Go.Proofs.YtdnodlkdndfplaaGreatDoor
