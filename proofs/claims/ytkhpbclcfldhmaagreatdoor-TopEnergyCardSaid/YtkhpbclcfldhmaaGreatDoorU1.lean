/-
 Places of texts in lists; numbers in ranges; the numbers of a branch.
-/
import Derived.Test.YtkhpbclcfldhmaaGreatDoorT12
import Derived.Test.YtkhpbclcfldhmaaGreatDoorNe
set_option linter.constructorNameAsVariable false
set_option linter.unusedSimpArgs false
set_option linter.unusedVariables false
namespace Go.Proofs.YtkhpbclcfldhmaaGreatDoor
open Go.Am Go.Tx Ne
set_option maxRecDepth 100000
set_option maxHeartbeats 8000000 in
theorem Zff (l:List Txt) (s:Txt) (hl:l.length≤1000):PureOK Tryz.prog Zao 8 [.v (.l .s) l, .v .s s] (fun V=>V= .v (.i .i64) (Zdk s l 0)):=by
 refine Zae Zah Tryz.func8 ?_
 refine Zag ?_
 refine Zab ?_
 refine Zaf ?_
 refine Zag ?_
 iterate 3 refine Zab ?_
 refine Zaf ?_
 refine Zaz Zah rfl (fun(i:Nat)=> [(0, .v (.l .s) l),(1, .v .s s),(7,nt l.length),(8,nt i)]) (fun _=> []) (fun i=>i≤l.length∧Zdk s l 0=Zdk s (l.drop i) i) (fun i=>l.length-i) ?_ 0 ⟨Nat.zero_le _,rfl⟩ (Zaq ⟨rfl,rfl,rfl,rfl,trivial⟩)
 rintro i ⟨hi,he⟩
 cases h1:decide ((i:Int)<(l.length:Int))with
 |false=>
  have e:i=l.length:=by have:=of_decide_eq_false h1;omega
  refine Zag ?_
  refine Zab ?_
  refine Zaf ?_
  refine brF h1 ?_
  refine Zag ?_
  refine Zab ?_
  refine Zaf ?_
  exact congrArg (fun x=>SV.v (.i .i64) x) (by rw[he,e,List.drop_length];rfl)
 |true=>
  have hlt:i<l.length:=by have:=of_decide_eq_true h1;omega
  have gx:l[(i:Int).toNat]? =some l[i]:=by rw[Int.toNat_natCast];exact List.getElem?_eq_getElem hlt
  have ed:Zdk s (l.drop i) i=bif s==l[i]then(i:Int)else Zdk s (l.drop (i+1)) (i+1):=by rw[List.drop_eq_getElem_cons hlt,Zdk]
  obtain⟨x,ex⟩: ∃x,l[i]=x:=⟨_,rfl⟩
  rw[ex]at gx ed
  refine Zag ?_
  refine Zab ?_
  refine Zaf ?_
  refine brT h1 ?_
  refine Zag ?_
  iterate 2 refine Zab ?_
  refine Zaf ?_
  cases h2:(s==x)with
  |true=>
   rw[h2]at ed
   refine Zag ?_
   iterate 3 refine Zab ?_
   refine Zb4 rfl (fun _=>rfl) (Int.natCast_nonneg i) gx rfl rfl ?_
   iterate 2 refine Zab ?_
   refine Zaf ?_
   refine brT h2 ?_
   refine Zag ?_
   iterate 2 refine Zab ?_
   refine Zaf ?_
   refine Za9 ?_
   repeat (first|refine ZaT ?_|refine ZaS ?_|refine ZaH ?_)
   exact congrArg (fun x=>SV.v (.i .i64) x) (he.trans ed).symm
  |false=>
   rw[h2]at ed
   refine Zag ?_
   iterate 3 refine Zab ?_
   refine Zb4 rfl (fun _=>rfl) (Int.natCast_nonneg i) gx rfl rfl ?_
   iterate 2 refine Zab ?_
   refine Zaf ?_
   refine brF h2 ?_
   refine Zag ?_
   iterate 2 refine Zab ?_
   refine Zaf ?_
   refine⟨i+1,⟨hlt,he.trans ed⟩,by show l.length-(i+1)<l.length-i;omega, ?_⟩
   exact Zaq ⟨rfl,rfl,rfl,congrArg (fun x=>some (SV.v (.i .i64) x)) (Zc6 (by omega)),trivial⟩
theorem Zyr (s:Txt) (l:List Txt):decide ((0:Int)≤Zdk s l 0)=Zfc s l:=(ZlO s l 0).symm
theorem ZpN (l:List Txt) (s:Txt) (hl:l.length≤1000):PureOK Tryz.prog Zao 50 [.v (.l .s) l, .v .s s] (fun V=>V= .v .b (Zfc s l)):=by
 refine Zae Zah Tryz.func50 ?_
 have h:=Zff l s hl
 refine Zag ?_
 refine Zab ?_
 refine Zaf ?_
 refine Zag ?_
 iterate 2 refine Zab ?_
 refine Zad rfl ((h).mono ?_)
 rintro _ rfl
 refine Zaa rfl rfl ?_
 iterate 2 refine Zab ?_
 refine Zaf ?_
 exact congrArg (fun x=>SV.v .b x) (Zyr s l)
theorem Zwm (n lo hi:Int):(!inR n lo hi)=(decide (n<lo)||decide (hi<n)):=by
 unfold inR
 rw[Bool.eq_iff_iff]
 simp only[Bool.not_eq_true',Bool.and_eq_false_iff,decide_eq_false_iff_not,Bool.or_eq_true,decide_eq_true_eq]
 omega
theorem Zmt (n lo hi:Int):PureOK Tryz.prog Zao 51 [.v (.i .i64) n, .v (.i .i64) lo, .v (.i .i64) hi] (fun V=>V= .v .b (!inR n lo hi)):=by
 refine Zae Zah Tryz.func51 ?_
 rw[Zwm]
 refine Zag ?_
 refine Zab ?_
 refine Zaf ?_
 cases h1:decide (n<lo)with
 |true=>
  refine Zag ?_
  iterate 4 refine Zab ?_
  refine Zap h1 ?_
  refine Zap h1 ?_
  refine Zap h1 ?_
  refine ZaK h1 ?_
  refine Zab ?_
  refine Zaf ?_
  rfl
 |false=>
  refine Zag ?_
  iterate 4 refine Zab ?_
  refine Zac h1 ?_
  refine Zac h1 ?_
  refine Zac h1 ?_
  refine Zat h1 ?_
  refine Zab ?_
  refine Zaf ?_
  rfl
theorem Zcd (n:Int):PureOK Tryz.prog Zao 52 [.v (.i .i64) n] (fun V=>V= .v .b (inR n 0 100000)):=by
 refine Zae Zah Tryz.func52 ?_
 have h:=Zmt n 0 100000
 refine Zag ?_
 refine Zab ?_
 refine Zaf ?_
 refine Zag ?_
 refine Zab ?_
 refine Zad rfl ((h).mono ?_)
 rintro _ rfl
 refine Zaa rfl rfl ?_
 iterate 2 refine Zab ?_
 refine Zaf ?_
 exact congrArg (fun x=>SV.v .b x) (Bool.not_not _)
def brV (b:Br):SV:= .agg [.v .s b.1, .v .s b.2.1, .v .s b.2.2.1, .v (.i .i64) b.2.2.2.1, .v (.i .i64) b.2.2.2.2.1, .v (.i .i64) b.2.2.2.2.2.1, .v (.i .i64) b.2.2.2.2.2.2.1, .v (.i .i64) b.2.2.2.2.2.2.2.1, .v (.i .i64) b.2.2.2.2.2.2.2.2]
set_option maxHeartbeats 8000000 in
theorem ZtM (b:Br):PureOK Tryz.prog Zao 30 [brV b] (fun V=>V= .v (.i .i64) (bif Zqq b then(4:Int)else 0)):=by
 refine Zae Zah Tryz.func30 ?_
 have c1:=Zmt b.2.2.2.1 1 10000
 have c2:=Zmt b.2.2.2.2.1 500 1500
 have c3:=Zmt b.2.2.2.2.2.1 (-1000) 1000
 have c4:=Zmt b.2.2.2.2.2.2.1 0 100000
 have c5:=Zmt b.2.2.2.2.2.2.2.1 b.2.2.2.2.2.2.1 100000
 have c6:=Zmt b.2.2.2.2.2.2.2.2 0 200000
 have hb:Zqq b= !(inR b.2.2.2.1 1 10000&&inR b.2.2.2.2.1 500 1500&&inR b.2.2.2.2.2.1 (-1000) 1000&&inR b.2.2.2.2.2.2.1 0 100000&&inR b.2.2.2.2.2.2.2.1 b.2.2.2.2.2.2.1 100000&&inR b.2.2.2.2.2.2.2.2 0 200000):=rfl
 rw[hb]
 obtain⟨i1,h1⟩: ∃x,inR b.2.2.2.1 1 10000=x:=⟨_,rfl⟩
 rw[h1]at c1
 obtain⟨i2,h2⟩: ∃x,inR b.2.2.2.2.1 500 1500=x:=⟨_,rfl⟩
 rw[h2]at c2
 obtain⟨i3,h3⟩: ∃x,inR b.2.2.2.2.2.1 (-1000) 1000=x:=⟨_,rfl⟩
 rw[h3]at c3
 obtain⟨i4,h4⟩: ∃x,inR b.2.2.2.2.2.2.1 0 100000=x:=⟨_,rfl⟩
 rw[h4]at c4
 obtain⟨i5,h5⟩: ∃x,inR b.2.2.2.2.2.2.2.1 b.2.2.2.2.2.2.1 100000=x:=⟨_,rfl⟩
 rw[h5]at c5
 obtain⟨i6,h6⟩: ∃x,inR b.2.2.2.2.2.2.2.2 0 200000=x:=⟨_,rfl⟩
 rw[h6]at c6
 rw[h1,h2,h3,h4,h5,h6]
 refine Zag ?_
 refine Zbq ?_
 refine Zab ?_
 refine Zaf ?_
 cases i1 with
 |false=>
  refine Zag ?_
  refine Zab ?_
  refine Zak rfl (fun _=>rfl) rfl rfl rfl ?_
  refine Zad rfl ((c1).mono ?_)
  rintro _ rfl
  refine Zaa rfl rfl ?_
  refine Zab ?_
  refine Zap rfl ?_
  refine Zap rfl ?_
  refine Zap rfl ?_
  refine ZaK rfl ?_
  refine Zab ?_
  refine Zap rfl ?_
  refine Zap rfl ?_
  refine Zap rfl ?_
  refine ZaK rfl ?_
  refine Zab ?_
  refine Zap rfl ?_
  refine Zap rfl ?_
  refine Zap rfl ?_
  refine ZaK rfl ?_
  refine Zab ?_
  refine Zap rfl ?_
  refine Zap rfl ?_
  refine Zap rfl ?_
  refine Zap rfl ?_
  refine Zap rfl ?_
  refine ZaK rfl ?_
  refine Zab ?_
  refine Zap rfl ?_
  refine Zap rfl ?_
  refine Zap rfl ?_
  refine ZaK rfl ?_
  refine Zaf ?_
  refine brT rfl ?_
  refine Zag ?_
  refine Zab ?_
  refine Zaf ?_
  rfl
 |true=>
  cases i2 with
  |false=>
   refine Zag ?_
   refine Zab ?_
   refine Zak rfl (fun _=>rfl) rfl rfl rfl ?_
   refine Zad rfl ((c1).mono ?_)
   rintro _ rfl
   refine Zaa rfl rfl ?_
   refine Zab ?_
   refine Zac rfl ?_
   refine Zam rfl rfl rfl rfl (fun _=>rfl) rfl rfl rfl ?_
   refine Zaw rfl rfl rfl rfl ((c2).mono ?_)
   rintro _ rfl
   refine Zaa rfl rfl ?_
   refine Zat rfl ?_
   refine Zab ?_
   refine Zap rfl ?_
   refine Zap rfl ?_
   refine Zap rfl ?_
   refine ZaK rfl ?_
   refine Zab ?_
   refine Zap rfl ?_
   refine Zap rfl ?_
   refine Zap rfl ?_
   refine ZaK rfl ?_
   refine Zab ?_
   refine Zap rfl ?_
   refine Zap rfl ?_
   refine Zap rfl ?_
   refine Zap rfl ?_
   refine Zap rfl ?_
   refine ZaK rfl ?_
   refine Zab ?_
   refine Zap rfl ?_
   refine Zap rfl ?_
   refine Zap rfl ?_
   refine ZaK rfl ?_
   refine Zaf ?_
   refine brT rfl ?_
   refine Zag ?_
   refine Zab ?_
   refine Zaf ?_
   rfl
  |true=>
   cases i3 with
   |false=>
    refine Zag ?_
    refine Zab ?_
    refine Zak rfl (fun _=>rfl) rfl rfl rfl ?_
    refine Zad rfl ((c1).mono ?_)
    rintro _ rfl
    refine Zaa rfl rfl ?_
    refine Zab ?_
    refine Zac rfl ?_
    refine Zam rfl rfl rfl rfl (fun _=>rfl) rfl rfl rfl ?_
    refine Zaw rfl rfl rfl rfl ((c2).mono ?_)
    rintro _ rfl
    refine Zaa rfl rfl ?_
    refine Zat rfl ?_
    refine Zab ?_
    refine Zac rfl ?_
    refine Zam rfl rfl rfl rfl (fun _=>rfl) rfl rfl rfl ?_
    refine Zaw rfl rfl rfl rfl ((c3).mono ?_)
    rintro _ rfl
    refine Zaa rfl rfl ?_
    refine Zat rfl ?_
    refine Zab ?_
    refine Zap rfl ?_
    refine Zap rfl ?_
    refine Zap rfl ?_
    refine ZaK rfl ?_
    refine Zab ?_
    refine Zap rfl ?_
    refine Zap rfl ?_
    refine Zap rfl ?_
    refine Zap rfl ?_
    refine Zap rfl ?_
    refine ZaK rfl ?_
    refine Zab ?_
    refine Zap rfl ?_
    refine Zap rfl ?_
    refine Zap rfl ?_
    refine ZaK rfl ?_
    refine Zaf ?_
    refine brT rfl ?_
    refine Zag ?_
    refine Zab ?_
    refine Zaf ?_
    rfl
   |true=>
    cases i4 with
    |false=>
     refine Zag ?_
     refine Zab ?_
     refine Zak rfl (fun _=>rfl) rfl rfl rfl ?_
     refine Zad rfl ((c1).mono ?_)
     rintro _ rfl
     refine Zaa rfl rfl ?_
     refine Zab ?_
     refine Zac rfl ?_
     refine Zam rfl rfl rfl rfl (fun _=>rfl) rfl rfl rfl ?_
     refine Zaw rfl rfl rfl rfl ((c2).mono ?_)
     rintro _ rfl
     refine Zaa rfl rfl ?_
     refine Zat rfl ?_
     refine Zab ?_
     refine Zac rfl ?_
     refine Zam rfl rfl rfl rfl (fun _=>rfl) rfl rfl rfl ?_
     refine Zaw rfl rfl rfl rfl ((c3).mono ?_)
     rintro _ rfl
     refine Zaa rfl rfl ?_
     refine Zat rfl ?_
     refine Zab ?_
     refine Zac rfl ?_
     refine Zam rfl rfl rfl rfl (fun _=>rfl) rfl rfl rfl ?_
     refine Zaw rfl rfl rfl rfl ((c4).mono ?_)
     rintro _ rfl
     refine Zaa rfl rfl ?_
     refine Zat rfl ?_
     refine Zab ?_
     refine Zap rfl ?_
     refine Zap rfl ?_
     refine Zap rfl ?_
     refine Zap rfl ?_
     refine Zap rfl ?_
     refine ZaK rfl ?_
     refine Zab ?_
     refine Zap rfl ?_
     refine Zap rfl ?_
     refine Zap rfl ?_
     refine ZaK rfl ?_
     refine Zaf ?_
     refine brT rfl ?_
     refine Zag ?_
     refine Zab ?_
     refine Zaf ?_
     rfl
    |true=>
     cases i5 with
     |false=>
      refine Zag ?_
      refine Zab ?_
      refine Zak rfl (fun _=>rfl) rfl rfl rfl ?_
      refine Zad rfl ((c1).mono ?_)
      rintro _ rfl
      refine Zaa rfl rfl ?_
      refine Zab ?_
      refine Zac rfl ?_
      refine Zam rfl rfl rfl rfl (fun _=>rfl) rfl rfl rfl ?_
      refine Zaw rfl rfl rfl rfl ((c2).mono ?_)
      rintro _ rfl
      refine Zaa rfl rfl ?_
      refine Zat rfl ?_
      refine Zab ?_
      refine Zac rfl ?_
      refine Zam rfl rfl rfl rfl (fun _=>rfl) rfl rfl rfl ?_
      refine Zaw rfl rfl rfl rfl ((c3).mono ?_)
      rintro _ rfl
      refine Zaa rfl rfl ?_
      refine Zat rfl ?_
      refine Zab ?_
      refine Zac rfl ?_
      refine Zam rfl rfl rfl rfl (fun _=>rfl) rfl rfl rfl ?_
      refine Zaw rfl rfl rfl rfl ((c4).mono ?_)
      rintro _ rfl
      refine Zaa rfl rfl ?_
      refine Zat rfl ?_
      refine Zab ?_
      refine Zac rfl ?_
      refine Zam rfl rfl rfl rfl (fun _=>rfl) rfl rfl rfl ?_
      refine Zac rfl ?_
      refine Zam rfl rfl rfl rfl (fun _=>rfl) rfl rfl rfl ?_
      refine Zaw rfl rfl rfl rfl ((c5).mono ?_)
      rintro _ rfl
      refine Zaa rfl rfl ?_
      refine Zat rfl ?_
      refine Zab ?_
      refine Zap rfl ?_
      refine Zap rfl ?_
      refine Zap rfl ?_
      refine ZaK rfl ?_
      refine Zaf ?_
      refine brT rfl ?_
      refine Zag ?_
      refine Zab ?_
      refine Zaf ?_
      rfl
     |true=>
      cases i6 with
      |false=>
       refine Zag ?_
       refine Zab ?_
       refine Zak rfl (fun _=>rfl) rfl rfl rfl ?_
       refine Zad rfl ((c1).mono ?_)
       rintro _ rfl
       refine Zaa rfl rfl ?_
       refine Zab ?_
       refine Zac rfl ?_
       refine Zam rfl rfl rfl rfl (fun _=>rfl) rfl rfl rfl ?_
       refine Zaw rfl rfl rfl rfl ((c2).mono ?_)
       rintro _ rfl
       refine Zaa rfl rfl ?_
       refine Zat rfl ?_
       refine Zab ?_
       refine Zac rfl ?_
       refine Zam rfl rfl rfl rfl (fun _=>rfl) rfl rfl rfl ?_
       refine Zaw rfl rfl rfl rfl ((c3).mono ?_)
       rintro _ rfl
       refine Zaa rfl rfl ?_
       refine Zat rfl ?_
       refine Zab ?_
       refine Zac rfl ?_
       refine Zam rfl rfl rfl rfl (fun _=>rfl) rfl rfl rfl ?_
       refine Zaw rfl rfl rfl rfl ((c4).mono ?_)
       rintro _ rfl
       refine Zaa rfl rfl ?_
       refine Zat rfl ?_
       refine Zab ?_
       refine Zac rfl ?_
       refine Zam rfl rfl rfl rfl (fun _=>rfl) rfl rfl rfl ?_
       refine Zac rfl ?_
       refine Zam rfl rfl rfl rfl (fun _=>rfl) rfl rfl rfl ?_
       refine Zaw rfl rfl rfl rfl ((c5).mono ?_)
       rintro _ rfl
       refine Zaa rfl rfl ?_
       refine Zat rfl ?_
       refine Zab ?_
       refine Zac rfl ?_
       refine Zam rfl rfl rfl rfl (fun _=>rfl) rfl rfl rfl ?_
       refine Zaw rfl rfl rfl rfl ((c6).mono ?_)
       rintro _ rfl
       refine Zaa rfl rfl ?_
       refine Zat rfl ?_
       refine Zaf ?_
       refine brT rfl ?_
       refine Zag ?_
       refine Zab ?_
       refine Zaf ?_
       rfl
      |true=>
       refine Zag ?_
       refine Zab ?_
       refine Zak rfl (fun _=>rfl) rfl rfl rfl ?_
       refine Zad rfl ((c1).mono ?_)
       rintro _ rfl
       refine Zaa rfl rfl ?_
       refine Zab ?_
       refine Zac rfl ?_
       refine Zam rfl rfl rfl rfl (fun _=>rfl) rfl rfl rfl ?_
       refine Zaw rfl rfl rfl rfl ((c2).mono ?_)
       rintro _ rfl
       refine Zaa rfl rfl ?_
       refine Zat rfl ?_
       refine Zab ?_
       refine Zac rfl ?_
       refine Zam rfl rfl rfl rfl (fun _=>rfl) rfl rfl rfl ?_
       refine Zaw rfl rfl rfl rfl ((c3).mono ?_)
       rintro _ rfl
       refine Zaa rfl rfl ?_
       refine Zat rfl ?_
       refine Zab ?_
       refine Zac rfl ?_
       refine Zam rfl rfl rfl rfl (fun _=>rfl) rfl rfl rfl ?_
       refine Zaw rfl rfl rfl rfl ((c4).mono ?_)
       rintro _ rfl
       refine Zaa rfl rfl ?_
       refine Zat rfl ?_
       refine Zab ?_
       refine Zac rfl ?_
       refine Zam rfl rfl rfl rfl (fun _=>rfl) rfl rfl rfl ?_
       refine Zac rfl ?_
       refine Zam rfl rfl rfl rfl (fun _=>rfl) rfl rfl rfl ?_
       refine Zaw rfl rfl rfl rfl ((c5).mono ?_)
       rintro _ rfl
       refine Zaa rfl rfl ?_
       refine Zat rfl ?_
       refine Zab ?_
       refine Zac rfl ?_
       refine Zam rfl rfl rfl rfl (fun _=>rfl) rfl rfl rfl ?_
       refine Zaw rfl rfl rfl rfl ((c6).mono ?_)
       rintro _ rfl
       refine Zaa rfl rfl ?_
       refine Zat rfl ?_
       refine Zaf ?_
       refine brF rfl ?_
       refine Zag ?_
       refine Zab ?_
       refine Zaf ?_
       rfl
end Go.Proofs.YtkhpbclcfldhmaaGreatDoor
