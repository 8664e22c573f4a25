/-
 Places of texts in lists; numbers in ranges; the numbers of a branch.
-/
import Derived.Test.YtgngdcpglnfkeaaDoorHints
set_option linter.constructorNameAsVariable false
set_option linter.unusedSimpArgs false
set_option linter.unusedVariables false
namespace Go.Proofs.YtgngdcpglnfkeaaDoor
open Go.Am Go.Tx Ne
set_option maxRecDepth 100000
set_option maxHeartbeats 8000000 in
theorem Zl3 (l:List Txt) (s:Txt) (hl:l.length≤1000):PureOK Tryd.prog Zaw 28 [.v (.l .s) l, .v .s s] (fun V=>V= .v (.i .i64) (Zah s l 0)):=by
 refine Zau Zao Tryd.func28 ?_
 refine Zae ?_
 refine Zab ?_
 refine Zaf ?_
 refine Zae ?_
 iterate 3 refine Zab ?_
 refine Zaf ?_
 refine ZaH Zao rfl (fun(i:Nat)=> [(0, .v (.l .s) l),(1, .v .s s),(7,nt l.length),(8,nt i)]) (fun _=> []) (fun i=>i≤l.length∧Zah s l 0=Zah s (l.drop i) i) (fun i=>l.length-i) ?_ 0 ⟨Nat.zero_le _,rfl⟩ (Zai ⟨rfl,rfl,rfl,rfl,trivial⟩)
 rintro i ⟨hi,he⟩
 cases h1:decide ((i:Int)<(l.length:Int))with
 |false=>
  have e:i=l.length:=by have:=of_decide_eq_false h1;omega
  refine Zae ?_
  refine Zab ?_
  refine Zaf ?_
  refine brF h1 ?_
  refine Zae ?_
  refine Zab ?_
  refine Zaf ?_
  exact congrArg (fun x=>SV.v (.i .i64) x) (by rw[he,e,List.drop_length];rfl)
 |true=>
  have hlt:i<l.length:=by have:=of_decide_eq_true h1;omega
  have gx:l[(i:Int).toNat]? =some l[i]:=by rw[Int.toNat_natCast];exact List.getElem?_eq_getElem hlt
  have ed:Zah s (l.drop i) i=bif s==l[i]then(i:Int)else Zah s (l.drop (i+1)) (i+1):=by rw[List.drop_eq_getElem_cons hlt,Zah]
  obtain⟨x,ex⟩: ∃x,l[i]=x:=⟨_,rfl⟩
  rw[ex]at gx ed
  refine Zae ?_
  refine Zab ?_
  refine Zaf ?_
  refine brT h1 ?_
  refine Zae ?_
  iterate 2 refine Zab ?_
  refine Zaf ?_
  cases h2:(s==x)with
  |true=>
   rw[h2]at ed
   refine Zae ?_
   iterate 3 refine Zab ?_
   refine Zbb rfl (fun _=>rfl) (Int.natCast_nonneg i) gx rfl rfl ?_
   iterate 2 refine Zab ?_
   refine Zaf ?_
   refine brT h2 ?_
   refine Zae ?_
   iterate 2 refine Zab ?_
   refine Zaf ?_
   refine ZaC ?_
   repeat (first|refine Zay ?_|refine Zax ?_|refine Zav ?_)
   exact congrArg (fun x=>SV.v (.i .i64) x) (he.trans ed).symm
  |false=>
   rw[h2]at ed
   refine Zae ?_
   iterate 3 refine Zab ?_
   refine Zbb rfl (fun _=>rfl) (Int.natCast_nonneg i) gx rfl rfl ?_
   iterate 2 refine Zab ?_
   refine Zaf ?_
   refine brF h2 ?_
   refine Zae ?_
   iterate 2 refine Zab ?_
   refine Zaf ?_
   refine⟨i+1,⟨hlt,he.trans ed⟩,by show l.length-(i+1)<l.length-i;omega, ?_⟩
   exact Zai ⟨rfl,rfl,rfl,congrArg (fun x=>some (SV.v (.i .i64) x)) (Za7 (by omega)),trivial⟩
theorem ZcI (a b:Txt):(a==b)=(b==a):=by
 rw[Bool.eq_iff_iff,beq_iff_eq,beq_iff_eq];exact⟨Eq.symm,Eq.symm⟩
set_option maxHeartbeats 8000000 in
theorem Zpn (l:List Txt) (s:Txt) (hl:l.length≤1000):PureOK Tryd.prog Zaw 40 [.v (.l .s) l, .v .s s] (fun V=>V= .v (.i .i64) (Zah s l 0)):=by
 refine Zau Zao Tryd.func40 ?_
 refine Zae ?_
 refine Zab ?_
 refine Zaf ?_
 refine Zae ?_
 iterate 3 refine Zab ?_
 refine Zaf ?_
 refine ZaH Zao rfl (fun(i:Nat)=> [(1, .v .s s),(7, .v (.l .s) l),(8,nt l.length),(9,nt i)]) (fun _=> []) (fun i=>i≤l.length∧Zah s l 0=Zah s (l.drop i) i) (fun i=>l.length-i) ?_ 0 ⟨Nat.zero_le _,rfl⟩ (Zai ⟨rfl,rfl,rfl,rfl,trivial⟩)
 rintro i ⟨hi,he⟩
 cases h1:decide ((i:Int)<(l.length:Int))with
 |false=>
  have e:i=l.length:=by have:=of_decide_eq_false h1;omega
  refine Zae ?_
  refine Zab ?_
  refine Zaf ?_
  refine brF h1 ?_
  refine Zae ?_
  refine Zab ?_
  refine Zaf ?_
  exact congrArg (fun x=>SV.v (.i .i64) x) (by rw[he,e,List.drop_length];rfl)
 |true=>
  have hlt:i<l.length:=by have:=of_decide_eq_true h1;omega
  have gx:l[(i:Int).toNat]? =some l[i]:=by rw[Int.toNat_natCast];exact List.getElem?_eq_getElem hlt
  have ed:Zah s (l.drop i) i=bif l[i]==s then(i:Int)else Zah s (l.drop (i+1)) (i+1):=by rw[List.drop_eq_getElem_cons hlt,Zah,ZcI]
  obtain⟨x,ex⟩: ∃x,l[i]=x:=⟨_,rfl⟩
  rw[ex]at gx ed
  refine Zae ?_
  refine Zab ?_
  refine Zaf ?_
  refine brT h1 ?_
  refine Zae ?_
  refine Zab ?_
  refine Zbb rfl (fun _=>rfl) (Int.natCast_nonneg i) gx rfl rfl ?_
  iterate 3 refine Zab ?_
  refine Zaf ?_
  cases h2:(x==s)with
  |true=>
   rw[h2]at ed
   refine Zae ?_
   iterate 3 refine Zab ?_
   refine Zaf ?_
   refine brT h2 ?_
   refine Zae ?_
   iterate 2 refine Zab ?_
   refine Zaf ?_
   refine ZaC ?_
   repeat (first|refine Zay ?_|refine Zax ?_|refine Zav ?_)
   exact congrArg (fun x=>SV.v (.i .i64) x) (he.trans ed).symm
  |false=>
   rw[h2]at ed
   refine Zae ?_
   iterate 3 refine Zab ?_
   refine Zaf ?_
   refine brF h2 ?_
   refine Zae ?_
   iterate 2 refine Zab ?_
   refine Zaf ?_
   refine⟨i+1,⟨hlt,he.trans ed⟩,by show l.length-(i+1)<l.length-i;omega, ?_⟩
   exact Zai ⟨rfl,rfl,rfl,congrArg (fun x=>some (SV.v (.i .i64) x)) (Za7 (by omega)),trivial⟩
theorem Zsn (s:Txt) (l:List Txt):decide ((0:Int)≤Zah s l 0)=ZcN s l:=(Zlm s l 0).symm
theorem Zop (l:List Txt) (s:Txt) (hl:l.length≤1000):PureOK Tryd.prog Zaw 71 [.v (.l .s) l, .v .s s] (fun V=>V= .v .b (ZcN s l)):=by
 refine Zau Zao Tryd.func71 ?_
 have h:=Zl3 l s hl
 refine Zae ?_
 refine Zab ?_
 refine Zaf ?_
 refine Zae ?_
 iterate 2 refine Zab ?_
 refine Zac rfl ((h).mono ?_)
 rintro _ rfl
 refine Zaa rfl rfl ?_
 iterate 2 refine Zab ?_
 refine Zaf ?_
 exact congrArg (fun x=>SV.v .b x) (Zsn s l)
theorem Zvc (l:List Txt) (s:Txt) (hl:l.length≤1000):PureOK Tryd.prog Zaw 38 [.v (.l .s) l, .v .s s] (fun V=>V= .v .b (ZcN s l)):=by
 refine Zau Zao Tryd.func38 ?_
 have h:=Zpn l s hl
 refine Zae ?_
 refine Zab ?_
 refine Zaf ?_
 refine Zae ?_
 iterate 2 refine Zab ?_
 refine Zac rfl ((h).mono ?_)
 rintro _ rfl
 refine Zaa rfl rfl ?_
 iterate 2 refine Zab ?_
 refine Zaf ?_
 exact congrArg (fun x=>SV.v .b x) (Zsn s l)
theorem ZqE (n lo hi:Int):(!inR n lo hi)=(decide (n<lo)||decide (hi<n)):=by
 unfold inR
 rw[Bool.eq_iff_iff]
 simp only[Bool.not_eq_true',Bool.and_eq_false_iff,decide_eq_false_iff_not,Bool.or_eq_true,decide_eq_true_eq]
 omega
theorem Zlb (n lo hi:Int):PureOK Tryd.prog Zaw 54 [.v (.i .i64) n, .v (.i .i64) lo, .v (.i .i64) hi] (fun V=>V= .v .b (!inR n lo hi)):=by
 refine Zau Zao Tryd.func54 ?_
 rw[ZqE]
 refine Zae ?_
 refine Zab ?_
 refine Zaf ?_
 cases h1:decide (n<lo)with
 |true=>
  refine Zae ?_
  iterate 4 refine Zab ?_
  refine Zaj h1 ?_
  refine Zaj h1 ?_
  refine Zaj h1 ?_
  refine Zat h1 ?_
  refine Zab ?_
  refine Zaf ?_
  rfl
 |false=>
  refine Zae ?_
  iterate 4 refine Zab ?_
  refine Zad h1 ?_
  refine Zad h1 ?_
  refine Zad h1 ?_
  refine Zas h1 ?_
  refine Zab ?_
  refine Zaf ?_
  rfl
theorem ZgE (n lo hi:Int):PureOK Tryd.prog Zaw 67 [.v (.i .i64) n, .v (.i .i64) lo, .v (.i .i64) hi] (fun V=>V= .v .b (inR n lo hi)):=by
 refine Zau Zao Tryd.func67 ?_
 have e:inR n lo hi= !(decide (n<lo)||decide (hi<n)):=by rw[←ZqE,Bool.not_not]
 rw[e]
 refine Zae ?_
 refine Zab ?_
 refine Zaf ?_
 cases h1:decide (n<lo)with
 |true=>
  refine Zae ?_
  iterate 4 refine Zab ?_
  refine Zaj h1 ?_
  refine Zaj h1 ?_
  refine Zaj h1 ?_
  refine Zat h1 ?_
  iterate 2 refine Zab ?_
  refine Zaf ?_
  rfl
 |false=>
  refine Zae ?_
  iterate 4 refine Zab ?_
  refine Zad h1 ?_
  refine Zad h1 ?_
  refine Zad h1 ?_
  refine Zas h1 ?_
  iterate 2 refine Zab ?_
  refine Zaf ?_
  rfl
theorem Zce (n:Int):PureOK Tryd.prog Zaw 72 [.v (.i .i64) n] (fun V=>V= .v .b (inR n 0 100000)):=by
 refine Zau Zao Tryd.func72 ?_
 have h:=Zlb n 0 100000
 refine Zae ?_
 refine Zab ?_
 refine Zaf ?_
 refine Zae ?_
 refine Zab ?_
 refine Zac rfl ((h).mono ?_)
 rintro _ rfl
 refine Zaa rfl rfl ?_
 iterate 2 refine Zab ?_
 refine Zaf ?_
 exact congrArg (fun x=>SV.v .b x) (Bool.not_not _)
def brV (b:Br):SV:= .agg [.v .s b.1, .v .s b.2.1, .v .s b.2.2.1, .v (.i .i64) b.2.2.2.1, .v (.i .i64) b.2.2.2.2.1, .v (.i .i64) b.2.2.2.2.2.1, .v (.i .i64) b.2.2.2.2.2.2.1, .v (.i .i64) b.2.2.2.2.2.2.2.1, .v (.i .i64) b.2.2.2.2.2.2.2.2]
set_option maxHeartbeats 8000000 in
theorem Zr1 (b:Br):PureOK Tryd.prog Zaw 26 [brV b] (fun V=>V= .v (.i .i64) (bif Zgk b then(4:Int)else 0)):=by
 refine Zau Zao Tryd.func26 ?_
 have c1:=Zlb b.2.2.2.1 1 10000
 have c2:=Zlb b.2.2.2.2.1 500 1500
 have c3:=Zlb b.2.2.2.2.2.1 (-1000) 1000
 have c4:=Zlb b.2.2.2.2.2.2.1 0 100000
 have c5:=Zlb b.2.2.2.2.2.2.2.1 b.2.2.2.2.2.2.1 100000
 have c6:=Zlb b.2.2.2.2.2.2.2.2 0 200000
 have hb:Zgk b= !(inR b.2.2.2.1 1 10000&&inR b.2.2.2.2.1 500 1500&&inR b.2.2.2.2.2.1 (-1000) 1000&&inR b.2.2.2.2.2.2.1 0 100000&&inR b.2.2.2.2.2.2.2.1 b.2.2.2.2.2.2.1 100000&&inR b.2.2.2.2.2.2.2.2 0 200000):=rfl
 rw[hb]
 obtain⟨i1,h1⟩: ∃x,inR b.2.2.2.1 1 10000=x:=⟨_,rfl⟩
 rw[h1]at c1
 obtain⟨i2,h2⟩: ∃x,inR b.2.2.2.2.1 500 1500=x:=⟨_,rfl⟩
 rw[h2]at c2
 obtain⟨i3,h3⟩: ∃x,inR b.2.2.2.2.2.1 (-1000) 1000=x:=⟨_,rfl⟩
 rw[h3]at c3
 obtain⟨i4,h4⟩: ∃x,inR b.2.2.2.2.2.2.1 0 100000=x:=⟨_,rfl⟩
 rw[h4]at c4
 obtain⟨i5,h5⟩: ∃x,inR b.2.2.2.2.2.2.2.1 b.2.2.2.2.2.2.1 100000=x:=⟨_,rfl⟩
 rw[h5]at c5
 obtain⟨i6,h6⟩: ∃x,inR b.2.2.2.2.2.2.2.2 0 200000=x:=⟨_,rfl⟩
 rw[h6]at c6
 rw[h1,h2,h3,h4,h5,h6]
 refine Zae ?_
 refine ZaR ?_
 refine Zab ?_
 refine Zaf ?_
 cases i1 with
 |false=>
  refine Zae ?_
  refine Zab ?_
  refine Zag rfl (fun _=>rfl) rfl rfl rfl ?_
  refine Zac rfl ((c1).mono ?_)
  rintro _ rfl
  refine Zaa rfl rfl ?_
  refine Zab ?_
  refine Zaj rfl ?_
  refine Zaj rfl ?_
  refine Zaj rfl ?_
  refine Zat rfl ?_
  refine Zab ?_
  refine Zaj rfl ?_
  refine Zaj rfl ?_
  refine Zaj rfl ?_
  refine Zat rfl ?_
  refine Zab ?_
  refine Zaj rfl ?_
  refine Zaj rfl ?_
  refine Zaj rfl ?_
  refine Zat rfl ?_
  refine Zab ?_
  refine Zaj rfl ?_
  refine Zaj rfl ?_
  refine Zaj rfl ?_
  refine Zaj rfl ?_
  refine Zaj rfl ?_
  refine Zat rfl ?_
  refine Zab ?_
  refine Zaj rfl ?_
  refine Zaj rfl ?_
  refine Zaj rfl ?_
  refine Zat rfl ?_
  refine Zaf ?_
  refine brT rfl ?_
  refine Zae ?_
  refine Zab ?_
  refine Zaf ?_
  rfl
 |true=>
  cases i2 with
  |false=>
   refine Zae ?_
   refine Zab ?_
   refine Zag rfl (fun _=>rfl) rfl rfl rfl ?_
   refine Zac rfl ((c1).mono ?_)
   rintro _ rfl
   refine Zaa rfl rfl ?_
   refine Zab ?_
   refine Zad rfl ?_
   refine Zak rfl rfl rfl rfl (fun _=>rfl) rfl rfl rfl ?_
   refine Zam rfl rfl rfl rfl ((c2).mono ?_)
   rintro _ rfl
   refine Zaa rfl rfl ?_
   refine Zas rfl ?_
   refine Zab ?_
   refine Zaj rfl ?_
   refine Zaj rfl ?_
   refine Zaj rfl ?_
   refine Zat rfl ?_
   refine Zab ?_
   refine Zaj rfl ?_
   refine Zaj rfl ?_
   refine Zaj rfl ?_
   refine Zat rfl ?_
   refine Zab ?_
   refine Zaj rfl ?_
   refine Zaj rfl ?_
   refine Zaj rfl ?_
   refine Zaj rfl ?_
   refine Zaj rfl ?_
   refine Zat rfl ?_
   refine Zab ?_
   refine Zaj rfl ?_
   refine Zaj rfl ?_
   refine Zaj rfl ?_
   refine Zat rfl ?_
   refine Zaf ?_
   refine brT rfl ?_
   refine Zae ?_
   refine Zab ?_
   refine Zaf ?_
   rfl
  |true=>
   cases i3 with
   |false=>
    refine Zae ?_
    refine Zab ?_
    refine Zag rfl (fun _=>rfl) rfl rfl rfl ?_
    refine Zac rfl ((c1).mono ?_)
    rintro _ rfl
    refine Zaa rfl rfl ?_
    refine Zab ?_
    refine Zad rfl ?_
    refine Zak rfl rfl rfl rfl (fun _=>rfl) rfl rfl rfl ?_
    refine Zam rfl rfl rfl rfl ((c2).mono ?_)
    rintro _ rfl
    refine Zaa rfl rfl ?_
    refine Zas rfl ?_
    refine Zab ?_
    refine Zad rfl ?_
    refine Zak rfl rfl rfl rfl (fun _=>rfl) rfl rfl rfl ?_
    refine Zam rfl rfl rfl rfl ((c3).mono ?_)
    rintro _ rfl
    refine Zaa rfl rfl ?_
    refine Zas rfl ?_
    refine Zab ?_
    refine Zaj rfl ?_
    refine Zaj rfl ?_
    refine Zaj rfl ?_
    refine Zat rfl ?_
    refine Zab ?_
    refine Zaj rfl ?_
    refine Zaj rfl ?_
    refine Zaj rfl ?_
    refine Zaj rfl ?_
    refine Zaj rfl ?_
    refine Zat rfl ?_
    refine Zab ?_
    refine Zaj rfl ?_
    refine Zaj rfl ?_
    refine Zaj rfl ?_
    refine Zat rfl ?_
    refine Zaf ?_
    refine brT rfl ?_
    refine Zae ?_
    refine Zab ?_
    refine Zaf ?_
    rfl
   |true=>
    cases i4 with
    |false=>
     refine Zae ?_
     refine Zab ?_
     refine Zag rfl (fun _=>rfl) rfl rfl rfl ?_
     refine Zac rfl ((c1).mono ?_)
     rintro _ rfl
     refine Zaa rfl rfl ?_
     refine Zab ?_
     refine Zad rfl ?_
     refine Zak rfl rfl rfl rfl (fun _=>rfl) rfl rfl rfl ?_
     refine Zam rfl rfl rfl rfl ((c2).mono ?_)
     rintro _ rfl
     refine Zaa rfl rfl ?_
     refine Zas rfl ?_
     refine Zab ?_
     refine Zad rfl ?_
     refine Zak rfl rfl rfl rfl (fun _=>rfl) rfl rfl rfl ?_
     refine Zam rfl rfl rfl rfl ((c3).mono ?_)
     rintro _ rfl
     refine Zaa rfl rfl ?_
     refine Zas rfl ?_
     refine Zab ?_
     refine Zad rfl ?_
     refine Zak rfl rfl rfl rfl (fun _=>rfl) rfl rfl rfl ?_
     refine Zam rfl rfl rfl rfl ((c4).mono ?_)
     rintro _ rfl
     refine Zaa rfl rfl ?_
     refine Zas rfl ?_
     refine Zab ?_
     refine Zaj rfl ?_
     refine Zaj rfl ?_
     refine Zaj rfl ?_
     refine Zaj rfl ?_
     refine Zaj rfl ?_
     refine Zat rfl ?_
     refine Zab ?_
     refine Zaj rfl ?_
     refine Zaj rfl ?_
     refine Zaj rfl ?_
     refine Zat rfl ?_
     refine Zaf ?_
     refine brT rfl ?_
     refine Zae ?_
     refine Zab ?_
     refine Zaf ?_
     rfl
    |true=>
     cases i5 with
     |false=>
      refine Zae ?_
      refine Zab ?_
      refine Zag rfl (fun _=>rfl) rfl rfl rfl ?_
      refine Zac rfl ((c1).mono ?_)
      rintro _ rfl
      refine Zaa rfl rfl ?_
      refine Zab ?_
      refine Zad rfl ?_
      refine Zak rfl rfl rfl rfl (fun _=>rfl) rfl rfl rfl ?_
      refine Zam rfl rfl rfl rfl ((c2).mono ?_)
      rintro _ rfl
      refine Zaa rfl rfl ?_
      refine Zas rfl ?_
      refine Zab ?_
      refine Zad rfl ?_
      refine Zak rfl rfl rfl rfl (fun _=>rfl) rfl rfl rfl ?_
      refine Zam rfl rfl rfl rfl ((c3).mono ?_)
      rintro _ rfl
      refine Zaa rfl rfl ?_
      refine Zas rfl ?_
      refine Zab ?_
      refine Zad rfl ?_
      refine Zak rfl rfl rfl rfl (fun _=>rfl) rfl rfl rfl ?_
      refine Zam rfl rfl rfl rfl ((c4).mono ?_)
      rintro _ rfl
      refine Zaa rfl rfl ?_
      refine Zas rfl ?_
      refine Zab ?_
      refine Zad rfl ?_
      refine Zak rfl rfl rfl rfl (fun _=>rfl) rfl rfl rfl ?_
      refine Zad rfl ?_
      refine Zak rfl rfl rfl rfl (fun _=>rfl) rfl rfl rfl ?_
      refine Zam rfl rfl rfl rfl ((c5).mono ?_)
      rintro _ rfl
      refine Zaa rfl rfl ?_
      refine Zas rfl ?_
      refine Zab ?_
      refine Zaj rfl ?_
      refine Zaj rfl ?_
      refine Zaj rfl ?_
      refine Zat rfl ?_
      refine Zaf ?_
      refine brT rfl ?_
      refine Zae ?_
      refine Zab ?_
      refine Zaf ?_
      rfl
     |true=>
      cases i6 with
      |false=>
       refine Zae ?_
       refine Zab ?_
       refine Zag rfl (fun _=>rfl) rfl rfl rfl ?_
       refine Zac rfl ((c1).mono ?_)
       rintro _ rfl
       refine Zaa rfl rfl ?_
       refine Zab ?_
       refine Zad rfl ?_
       refine Zak rfl rfl rfl rfl (fun _=>rfl) rfl rfl rfl ?_
       refine Zam rfl rfl rfl rfl ((c2).mono ?_)
       rintro _ rfl
       refine Zaa rfl rfl ?_
       refine Zas rfl ?_
       refine Zab ?_
       refine Zad rfl ?_
       refine Zak rfl rfl rfl rfl (fun _=>rfl) rfl rfl rfl ?_
       refine Zam rfl rfl rfl rfl ((c3).mono ?_)
       rintro _ rfl
       refine Zaa rfl rfl ?_
       refine Zas rfl ?_
       refine Zab ?_
       refine Zad rfl ?_
       refine Zak rfl rfl rfl rfl (fun _=>rfl) rfl rfl rfl ?_
       refine Zam rfl rfl rfl rfl ((c4).mono ?_)
       rintro _ rfl
       refine Zaa rfl rfl ?_
       refine Zas rfl ?_
       refine Zab ?_
       refine Zad rfl ?_
       refine Zak rfl rfl rfl rfl (fun _=>rfl) rfl rfl rfl ?_
       refine Zad rfl ?_
       refine Zak rfl rfl rfl rfl (fun _=>rfl) rfl rfl rfl ?_
       refine Zam rfl rfl rfl rfl ((c5).mono ?_)
       rintro _ rfl
       refine Zaa rfl rfl ?_
       refine Zas rfl ?_
       refine Zab ?_
       refine Zad rfl ?_
       refine Zak rfl rfl rfl rfl (fun _=>rfl) rfl rfl rfl ?_
       refine Zam rfl rfl rfl rfl ((c6).mono ?_)
       rintro _ rfl
       refine Zaa rfl rfl ?_
       refine Zas rfl ?_
       refine Zaf ?_
       refine brT rfl ?_
       refine Zae ?_
       refine Zab ?_
       refine Zaf ?_
       rfl
      |true=>
       refine Zae ?_
       refine Zab ?_
       refine Zag rfl (fun _=>rfl) rfl rfl rfl ?_
       refine Zac rfl ((c1).mono ?_)
       rintro _ rfl
       refine Zaa rfl rfl ?_
       refine Zab ?_
       refine Zad rfl ?_
       refine Zak rfl rfl rfl rfl (fun _=>rfl) rfl rfl rfl ?_
       refine Zam rfl rfl rfl rfl ((c2).mono ?_)
       rintro _ rfl
       refine Zaa rfl rfl ?_
       refine Zas rfl ?_
       refine Zab ?_
       refine Zad rfl ?_
       refine Zak rfl rfl rfl rfl (fun _=>rfl) rfl rfl rfl ?_
       refine Zam rfl rfl rfl rfl ((c3).mono ?_)
       rintro _ rfl
       refine Zaa rfl rfl ?_
       refine Zas rfl ?_
       refine Zab ?_
       refine Zad rfl ?_
       refine Zak rfl rfl rfl rfl (fun _=>rfl) rfl rfl rfl ?_
       refine Zam rfl rfl rfl rfl ((c4).mono ?_)
       rintro _ rfl
       refine Zaa rfl rfl ?_
       refine Zas rfl ?_
       refine Zab ?_
       refine Zad rfl ?_
       refine Zak rfl rfl rfl rfl (fun _=>rfl) rfl rfl rfl ?_
       refine Zad rfl ?_
       refine Zak rfl rfl rfl rfl (fun _=>rfl) rfl rfl rfl ?_
       refine Zam rfl rfl rfl rfl ((c5).mono ?_)
       rintro _ rfl
       refine Zaa rfl rfl ?_
       refine Zas rfl ?_
       refine Zab ?_
       refine Zad rfl ?_
       refine Zak rfl rfl rfl rfl (fun _=>rfl) rfl rfl rfl ?_
       refine Zam rfl rfl rfl rfl ((c6).mono ?_)
       rintro _ rfl
       refine Zaa rfl rfl ?_
       refine Zas rfl ?_
       refine Zaf ?_
       refine brF rfl ?_
       refine Zae ?_
       refine Zab ?_
       refine Zaf ?_
       rfl
set_option maxHeartbeats 8000000 in
theorem Zjk (b:Br):PureOK Tryd.prog Zaw 66 [brV b] (fun V=>V= .v (.i .i64) (bif Zgk b then(4:Int)else 0)):=by
 refine Zau Zao Tryd.func66 ?_
 have c1:=ZgE b.2.2.2.1 1 10000
 have c2:=ZgE b.2.2.2.2.1 500 1500
 have c3:=ZgE b.2.2.2.2.2.1 (-1000) 1000
 have c4:=ZgE b.2.2.2.2.2.2.1 0 100000
 have c5:=ZgE b.2.2.2.2.2.2.2.1 b.2.2.2.2.2.2.1 100000
 have c6:=ZgE b.2.2.2.2.2.2.2.2 0 200000
 have hb:Zgk b= !(inR b.2.2.2.1 1 10000&&inR b.2.2.2.2.1 500 1500&&inR b.2.2.2.2.2.1 (-1000) 1000&&inR b.2.2.2.2.2.2.1 0 100000&&inR b.2.2.2.2.2.2.2.1 b.2.2.2.2.2.2.1 100000&&inR b.2.2.2.2.2.2.2.2 0 200000):=rfl
 rw[hb]
 obtain⟨i1,h1⟩: ∃x,inR b.2.2.2.1 1 10000=x:=⟨_,rfl⟩
 rw[h1]at c1
 obtain⟨i2,h2⟩: ∃x,inR b.2.2.2.2.1 500 1500=x:=⟨_,rfl⟩
 rw[h2]at c2
 obtain⟨i3,h3⟩: ∃x,inR b.2.2.2.2.2.1 (-1000) 1000=x:=⟨_,rfl⟩
 rw[h3]at c3
 obtain⟨i4,h4⟩: ∃x,inR b.2.2.2.2.2.2.1 0 100000=x:=⟨_,rfl⟩
 rw[h4]at c4
 obtain⟨i5,h5⟩: ∃x,inR b.2.2.2.2.2.2.2.1 b.2.2.2.2.2.2.1 100000=x:=⟨_,rfl⟩
 rw[h5]at c5
 obtain⟨i6,h6⟩: ∃x,inR b.2.2.2.2.2.2.2.2 0 200000=x:=⟨_,rfl⟩
 rw[h6]at c6
 rw[h1,h2,h3,h4,h5,h6]
 refine Zae ?_
 refine ZaR ?_
 refine Zab ?_
 refine Zaf ?_
 cases i1 with
 |false=>
  refine Zae ?_
  refine Zab ?_
  refine Zag rfl (fun _=>rfl) rfl rfl rfl ?_
  refine Zac rfl ((c1).mono ?_)
  rintro _ rfl
  refine Zaa rfl rfl ?_
  refine Zab ?_
  refine Zaj rfl ?_
  refine Zaj rfl ?_
  refine Zaj rfl ?_
  refine Zas rfl ?_
  refine Zab ?_
  refine Zaj rfl ?_
  refine Zaj rfl ?_
  refine Zaj rfl ?_
  refine Zas rfl ?_
  refine Zab ?_
  refine Zaj rfl ?_
  refine Zaj rfl ?_
  refine Zaj rfl ?_
  refine Zas rfl ?_
  refine Zab ?_
  refine Zaj rfl ?_
  refine Zaj rfl ?_
  refine Zaj rfl ?_
  refine Zaj rfl ?_
  refine Zaj rfl ?_
  refine Zas rfl ?_
  refine Zab ?_
  refine Zaj rfl ?_
  refine Zaj rfl ?_
  refine Zaj rfl ?_
  refine Zas rfl ?_
  refine Zaf ?_
  refine brF rfl ?_
  refine Zae ?_
  refine Zab ?_
  refine Zaf ?_
  rfl
 |true=>
  cases i2 with
  |false=>
   refine Zae ?_
   refine Zab ?_
   refine Zag rfl (fun _=>rfl) rfl rfl rfl ?_
   refine Zac rfl ((c1).mono ?_)
   rintro _ rfl
   refine Zaa rfl rfl ?_
   refine Zab ?_
   refine Zad rfl ?_
   refine Zak rfl rfl rfl rfl (fun _=>rfl) rfl rfl rfl ?_
   refine Zam rfl rfl rfl rfl ((c2).mono ?_)
   rintro _ rfl
   refine Zaa rfl rfl ?_
   refine Zat rfl ?_
   refine Zab ?_
   refine Zaj rfl ?_
   refine Zaj rfl ?_
   refine Zaj rfl ?_
   refine Zas rfl ?_
   refine Zab ?_
   refine Zaj rfl ?_
   refine Zaj rfl ?_
   refine Zaj rfl ?_
   refine Zas rfl ?_
   refine Zab ?_
   refine Zaj rfl ?_
   refine Zaj rfl ?_
   refine Zaj rfl ?_
   refine Zaj rfl ?_
   refine Zaj rfl ?_
   refine Zas rfl ?_
   refine Zab ?_
   refine Zaj rfl ?_
   refine Zaj rfl ?_
   refine Zaj rfl ?_
   refine Zas rfl ?_
   refine Zaf ?_
   refine brF rfl ?_
   refine Zae ?_
   refine Zab ?_
   refine Zaf ?_
   rfl
  |true=>
   cases i3 with
   |false=>
    refine Zae ?_
    refine Zab ?_
    refine Zag rfl (fun _=>rfl) rfl rfl rfl ?_
    refine Zac rfl ((c1).mono ?_)
    rintro _ rfl
    refine Zaa rfl rfl ?_
    refine Zab ?_
    refine Zad rfl ?_
    refine Zak rfl rfl rfl rfl (fun _=>rfl) rfl rfl rfl ?_
    refine Zam rfl rfl rfl rfl ((c2).mono ?_)
    rintro _ rfl
    refine Zaa rfl rfl ?_
    refine Zat rfl ?_
    refine Zab ?_
    refine Zad rfl ?_
    refine Zak rfl rfl rfl rfl (fun _=>rfl) rfl rfl rfl ?_
    refine Zam rfl rfl rfl rfl ((c3).mono ?_)
    rintro _ rfl
    refine Zaa rfl rfl ?_
    refine Zat rfl ?_
    refine Zab ?_
    refine Zaj rfl ?_
    refine Zaj rfl ?_
    refine Zaj rfl ?_
    refine Zas rfl ?_
    refine Zab ?_
    refine Zaj rfl ?_
    refine Zaj rfl ?_
    refine Zaj rfl ?_
    refine Zaj rfl ?_
    refine Zaj rfl ?_
    refine Zas rfl ?_
    refine Zab ?_
    refine Zaj rfl ?_
    refine Zaj rfl ?_
    refine Zaj rfl ?_
    refine Zas rfl ?_
    refine Zaf ?_
    refine brF rfl ?_
    refine Zae ?_
    refine Zab ?_
    refine Zaf ?_
    rfl
   |true=>
    cases i4 with
    |false=>
     refine Zae ?_
     refine Zab ?_
     refine Zag rfl (fun _=>rfl) rfl rfl rfl ?_
     refine Zac rfl ((c1).mono ?_)
     rintro _ rfl
     refine Zaa rfl rfl ?_
     refine Zab ?_
     refine Zad rfl ?_
     refine Zak rfl rfl rfl rfl (fun _=>rfl) rfl rfl rfl ?_
     refine Zam rfl rfl rfl rfl ((c2).mono ?_)
     rintro _ rfl
     refine Zaa rfl rfl ?_
     refine Zat rfl ?_
     refine Zab ?_
     refine Zad rfl ?_
     refine Zak rfl rfl rfl rfl (fun _=>rfl) rfl rfl rfl ?_
     refine Zam rfl rfl rfl rfl ((c3).mono ?_)
     rintro _ rfl
     refine Zaa rfl rfl ?_
     refine Zat rfl ?_
     refine Zab ?_
     refine Zad rfl ?_
     refine Zak rfl rfl rfl rfl (fun _=>rfl) rfl rfl rfl ?_
     refine Zam rfl rfl rfl rfl ((c4).mono ?_)
     rintro _ rfl
     refine Zaa rfl rfl ?_
     refine Zat rfl ?_
     refine Zab ?_
     refine Zaj rfl ?_
     refine Zaj rfl ?_
     refine Zaj rfl ?_
     refine Zaj rfl ?_
     refine Zaj rfl ?_
     refine Zas rfl ?_
     refine Zab ?_
     refine Zaj rfl ?_
     refine Zaj rfl ?_
     refine Zaj rfl ?_
     refine Zas rfl ?_
     refine Zaf ?_
     refine brF rfl ?_
     refine Zae ?_
     refine Zab ?_
     refine Zaf ?_
     rfl
    |true=>
     cases i5 with
     |false=>
      refine Zae ?_
      refine Zab ?_
      refine Zag rfl (fun _=>rfl) rfl rfl rfl ?_
      refine Zac rfl ((c1).mono ?_)
      rintro _ rfl
      refine Zaa rfl rfl ?_
      refine Zab ?_
      refine Zad rfl ?_
      refine Zak rfl rfl rfl rfl (fun _=>rfl) rfl rfl rfl ?_
      refine Zam rfl rfl rfl rfl ((c2).mono ?_)
      rintro _ rfl
      refine Zaa rfl rfl ?_
      refine Zat rfl ?_
      refine Zab ?_
      refine Zad rfl ?_
      refine Zak rfl rfl rfl rfl (fun _=>rfl) rfl rfl rfl ?_
      refine Zam rfl rfl rfl rfl ((c3).mono ?_)
      rintro _ rfl
      refine Zaa rfl rfl ?_
      refine Zat rfl ?_
      refine Zab ?_
      refine Zad rfl ?_
      refine Zak rfl rfl rfl rfl (fun _=>rfl) rfl rfl rfl ?_
      refine Zam rfl rfl rfl rfl ((c4).mono ?_)
      rintro _ rfl
      refine Zaa rfl rfl ?_
      refine Zat rfl ?_
      refine Zab ?_
      refine Zad rfl ?_
      refine Zak rfl rfl rfl rfl (fun _=>rfl) rfl rfl rfl ?_
      refine Zad rfl ?_
      refine Zak rfl rfl rfl rfl (fun _=>rfl) rfl rfl rfl ?_
      refine Zam rfl rfl rfl rfl ((c5).mono ?_)
      rintro _ rfl
      refine Zaa rfl rfl ?_
      refine Zat rfl ?_
      refine Zab ?_
      refine Zaj rfl ?_
      refine Zaj rfl ?_
      refine Zaj rfl ?_
      refine Zas rfl ?_
      refine Zaf ?_
      refine brF rfl ?_
      refine Zae ?_
      refine Zab ?_
      refine Zaf ?_
      rfl
     |true=>
      cases i6 with
      |false=>
       refine Zae ?_
       refine Zab ?_
       refine Zag rfl (fun _=>rfl) rfl rfl rfl ?_
       refine Zac rfl ((c1).mono ?_)
       rintro _ rfl
       refine Zaa rfl rfl ?_
       refine Zab ?_
       refine Zad rfl ?_
       refine Zak rfl rfl rfl rfl (fun _=>rfl) rfl rfl rfl ?_
       refine Zam rfl rfl rfl rfl ((c2).mono ?_)
       rintro _ rfl
       refine Zaa rfl rfl ?_
       refine Zat rfl ?_
       refine Zab ?_
       refine Zad rfl ?_
       refine Zak rfl rfl rfl rfl (fun _=>rfl) rfl rfl rfl ?_
       refine Zam rfl rfl rfl rfl ((c3).mono ?_)
       rintro _ rfl
       refine Zaa rfl rfl ?_
       refine Zat rfl ?_
       refine Zab ?_
       refine Zad rfl ?_
       refine Zak rfl rfl rfl rfl (fun _=>rfl) rfl rfl rfl ?_
       refine Zam rfl rfl rfl rfl ((c4).mono ?_)
       rintro _ rfl
       refine Zaa rfl rfl ?_
       refine Zat rfl ?_
       refine Zab ?_
       refine Zad rfl ?_
       refine Zak rfl rfl rfl rfl (fun _=>rfl) rfl rfl rfl ?_
       refine Zad rfl ?_
       refine Zak rfl rfl rfl rfl (fun _=>rfl) rfl rfl rfl ?_
       refine Zam rfl rfl rfl rfl ((c5).mono ?_)
       rintro _ rfl
       refine Zaa rfl rfl ?_
       refine Zat rfl ?_
       refine Zab ?_
       refine Zad rfl ?_
       refine Zak rfl rfl rfl rfl (fun _=>rfl) rfl rfl rfl ?_
       refine Zam rfl rfl rfl rfl ((c6).mono ?_)
       rintro _ rfl
       refine Zaa rfl rfl ?_
       refine Zat rfl ?_
       refine Zaf ?_
       refine brF rfl ?_
       refine Zae ?_
       refine Zab ?_
       refine Zaf ?_
       rfl
      |true=>
       refine Zae ?_
       refine Zab ?_
       refine Zag rfl (fun _=>rfl) rfl rfl rfl ?_
       refine Zac rfl ((c1).mono ?_)
       rintro _ rfl
       refine Zaa rfl rfl ?_
       refine Zab ?_
       refine Zad rfl ?_
       refine Zak rfl rfl rfl rfl (fun _=>rfl) rfl rfl rfl ?_
       refine Zam rfl rfl rfl rfl ((c2).mono ?_)
       rintro _ rfl
       refine Zaa rfl rfl ?_
       refine Zat rfl ?_
       refine Zab ?_
       refine Zad rfl ?_
       refine Zak rfl rfl rfl rfl (fun _=>rfl) rfl rfl rfl ?_
       refine Zam rfl rfl rfl rfl ((c3).mono ?_)
       rintro _ rfl
       refine Zaa rfl rfl ?_
       refine Zat rfl ?_
       refine Zab ?_
       refine Zad rfl ?_
       refine Zak rfl rfl rfl rfl (fun _=>rfl) rfl rfl rfl ?_
       refine Zam rfl rfl rfl rfl ((c4).mono ?_)
       rintro _ rfl
       refine Zaa rfl rfl ?_
       refine Zat rfl ?_
       refine Zab ?_
       refine Zad rfl ?_
       refine Zak rfl rfl rfl rfl (fun _=>rfl) rfl rfl rfl ?_
       refine Zad rfl ?_
       refine Zak rfl rfl rfl rfl (fun _=>rfl) rfl rfl rfl ?_
       refine Zam rfl rfl rfl rfl ((c5).mono ?_)
       rintro _ rfl
       refine Zaa rfl rfl ?_
       refine Zat rfl ?_
       refine Zab ?_
       refine Zad rfl ?_
       refine Zak rfl rfl rfl rfl (fun _=>rfl) rfl rfl rfl ?_
       refine Zam rfl rfl rfl rfl ((c6).mono ?_)
       rintro _ rfl
       refine Zaa rfl rfl ?_
       refine Zat rfl ?_
       refine Zaf ?_
       refine brT rfl ?_
       refine Zae ?_
       refine Zab ?_
       refine Zaf ?_
       rfl
end Go.Proofs.YtgngdcpglnfkeaaDoor
