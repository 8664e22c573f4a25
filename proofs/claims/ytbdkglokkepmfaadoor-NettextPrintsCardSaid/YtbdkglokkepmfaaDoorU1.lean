/-
 Places of texts in lists; numbers in ranges; the numbers of a branch.
-/
import Derived.Test.YtbdkglokkepmfaaDoorU0
set_option linter.constructorNameAsVariable false
set_option linter.unusedSimpArgs false
set_option linter.unusedVariables false
namespace Go.Proofs.YtbdkglokkepmfaaDoor
open Go.Am Go.Tx Ne
set_option maxRecDepth 100000
set_option maxHeartbeats 8000000 in
theorem Zsh (l:List Txt) (s:Txt) (hl:l.length≤1000):PureOK Tryd.prog Zax 32 [.v (.l .s) l, .v .s s] (fun V=>V= .v (.i .i64) (Zcp s l 0)):=by
 refine Zav Zaq Tryd.func32 ?_
 refine Zae ?_
 refine Zaa ?_
 refine Zad ?_
 refine Zae ?_
 iterate 3 refine Zaa ?_
 refine Zad ?_
 refine ZaB Zaq rfl (fun(i:Nat)=> [(0, .v (.l .s) l),(1, .v .s s),(7,nt l.length),(8,nt i)]) (fun _=> []) (fun i=>i≤l.length∧Zcp s l 0=Zcp s (l.drop i) i) (fun i=>l.length-i) ?_ 0 ⟨Nat.zero_le _,rfl⟩ (Zah ⟨rfl,rfl,rfl,rfl,trivial⟩)
 rintro i ⟨hi,he⟩
 cases h1:decide ((i:Int)<(l.length:Int))with
 |false=>
  have e:i=l.length:=by have:=of_decide_eq_false h1;omega
  refine Zae ?_
  refine Zaa ?_
  refine Zad ?_
  refine brF h1 ?_
  refine Zae ?_
  refine Zaa ?_
  refine Zad ?_
  exact congrArg (fun x=>SV.v (.i .i64) x) (by rw[he,e,List.drop_length];rfl)
 |true=>
  have hlt:i<l.length:=by have:=of_decide_eq_true h1;omega
  have gx:l[(i:Int).toNat]? =some l[i]:=by rw[Int.toNat_natCast];exact List.getElem?_eq_getElem hlt
  have ed:Zcp s (l.drop i) i=bif s==l[i]then(i:Int)else Zcp s (l.drop (i+1)) (i+1):=by rw[List.drop_eq_getElem_cons hlt,Zcp]
  obtain⟨x,ex⟩: ∃x,l[i]=x:=⟨_,rfl⟩
  rw[ex]at gx ed
  refine Zae ?_
  refine Zaa ?_
  refine Zad ?_
  refine brT h1 ?_
  refine Zae ?_
  iterate 2 refine Zaa ?_
  refine Zad ?_
  cases h2:(s==x)with
  |true=>
   rw[h2]at ed
   refine Zae ?_
   iterate 3 refine Zaa ?_
   refine Za5 rfl (fun _=>rfl) (Int.natCast_nonneg i) gx rfl rfl ?_
   iterate 2 refine Zaa ?_
   refine Zad ?_
   refine brT h2 ?_
   refine Zae ?_
   iterate 2 refine Zaa ?_
   refine Zad ?_
   refine ZaL ?_
   repeat (first|refine ZaA ?_|refine Zaz ?_|refine Zat ?_)
   exact congrArg (fun x=>SV.v (.i .i64) x) (he.trans ed).symm
  |false=>
   rw[h2]at ed
   refine Zae ?_
   iterate 3 refine Zaa ?_
   refine Za5 rfl (fun _=>rfl) (Int.natCast_nonneg i) gx rfl rfl ?_
   iterate 2 refine Zaa ?_
   refine Zad ?_
   refine brF h2 ?_
   refine Zae ?_
   iterate 2 refine Zaa ?_
   refine Zad ?_
   refine⟨i+1,⟨hlt,he.trans ed⟩,by show l.length-(i+1)<l.length-i;omega, ?_⟩
   exact Zah ⟨rfl,rfl,rfl,congrArg (fun x=>some (SV.v (.i .i64) x)) (ZaW (by omega)),trivial⟩
theorem Zq8 (a b:Txt):(a==b)=(b==a):=by
 rw[Bool.eq_iff_iff,beq_iff_eq,beq_iff_eq];exact⟨Eq.symm,Eq.symm⟩
set_option maxHeartbeats 8000000 in
theorem Zst (l:List Txt) (s:Txt) (hl:l.length≤1000):PureOK Tryd.prog Zax 21 [.v (.l .s) l, .v .s s] (fun V=>V= .v (.i .i64) (Zcp s l 0)):=by
 refine Zav Zaq Tryd.func21 ?_
 refine Zae ?_
 refine Zaa ?_
 refine Zad ?_
 refine Zae ?_
 iterate 3 refine Zaa ?_
 refine Zad ?_
 refine ZaB Zaq rfl (fun(i:Nat)=> [(1, .v .s s),(7, .v (.l .s) l),(8,nt l.length),(9,nt i)]) (fun _=> []) (fun i=>i≤l.length∧Zcp s l 0=Zcp s (l.drop i) i) (fun i=>l.length-i) ?_ 0 ⟨Nat.zero_le _,rfl⟩ (Zah ⟨rfl,rfl,rfl,rfl,trivial⟩)
 rintro i ⟨hi,he⟩
 cases h1:decide ((i:Int)<(l.length:Int))with
 |false=>
  have e:i=l.length:=by have:=of_decide_eq_false h1;omega
  refine Zae ?_
  refine Zaa ?_
  refine Zad ?_
  refine brF h1 ?_
  refine Zae ?_
  refine Zaa ?_
  refine Zad ?_
  exact congrArg (fun x=>SV.v (.i .i64) x) (by rw[he,e,List.drop_length];rfl)
 |true=>
  have hlt:i<l.length:=by have:=of_decide_eq_true h1;omega
  have gx:l[(i:Int).toNat]? =some l[i]:=by rw[Int.toNat_natCast];exact List.getElem?_eq_getElem hlt
  have ed:Zcp s (l.drop i) i=bif l[i]==s then(i:Int)else Zcp s (l.drop (i+1)) (i+1):=by rw[List.drop_eq_getElem_cons hlt,Zcp,Zq8]
  obtain⟨x,ex⟩: ∃x,l[i]=x:=⟨_,rfl⟩
  rw[ex]at gx ed
  refine Zae ?_
  refine Zaa ?_
  refine Zad ?_
  refine brT h1 ?_
  refine Zae ?_
  refine Zaa ?_
  refine Za5 rfl (fun _=>rfl) (Int.natCast_nonneg i) gx rfl rfl ?_
  iterate 3 refine Zaa ?_
  refine Zad ?_
  cases h2:(x==s)with
  |true=>
   rw[h2]at ed
   refine Zae ?_
   iterate 3 refine Zaa ?_
   refine Zad ?_
   refine brT h2 ?_
   refine Zae ?_
   iterate 2 refine Zaa ?_
   refine Zad ?_
   refine ZaL ?_
   repeat (first|refine ZaA ?_|refine Zaz ?_|refine Zat ?_)
   exact congrArg (fun x=>SV.v (.i .i64) x) (he.trans ed).symm
  |false=>
   rw[h2]at ed
   refine Zae ?_
   iterate 3 refine Zaa ?_
   refine Zad ?_
   refine brF h2 ?_
   refine Zae ?_
   iterate 2 refine Zaa ?_
   refine Zad ?_
   refine⟨i+1,⟨hlt,he.trans ed⟩,by show l.length-(i+1)<l.length-i;omega, ?_⟩
   exact Zah ⟨rfl,rfl,rfl,congrArg (fun x=>some (SV.v (.i .i64) x)) (ZaW (by omega)),trivial⟩
theorem ZrF (s:Txt) (l:List Txt):decide ((0:Int)≤Zcp s l 0)=Zcf s l:=(Zkz s l 0).symm
theorem Zf3 (l:List Txt) (s:Txt) (hl:l.length≤1000):PureOK Tryd.prog Zax 15 [.v (.l .s) l, .v .s s] (fun V=>V= .v .b (Zcf s l)):=by
 refine Zav Zaq Tryd.func15 ?_
 have h:=Zsh l s hl
 refine Zae ?_
 refine Zaa ?_
 refine Zad ?_
 refine Zae ?_
 iterate 2 refine Zaa ?_
 refine Zaf rfl ((h).mono ?_)
 rintro _ rfl
 refine Zab rfl rfl ?_
 iterate 2 refine Zaa ?_
 refine Zad ?_
 exact congrArg (fun x=>SV.v .b x) (ZrF s l)
theorem Zrf (l:List Txt) (s:Txt) (hl:l.length≤1000):PureOK Tryd.prog Zax 9 [.v (.l .s) l, .v .s s] (fun V=>V= .v .b (Zcf s l)):=by
 refine Zav Zaq Tryd.func9 ?_
 have h:=Zst l s hl
 refine Zae ?_
 refine Zaa ?_
 refine Zad ?_
 refine Zae ?_
 iterate 2 refine Zaa ?_
 refine Zaf rfl ((h).mono ?_)
 rintro _ rfl
 refine Zab rfl rfl ?_
 iterate 2 refine Zaa ?_
 refine Zad ?_
 exact congrArg (fun x=>SV.v .b x) (ZrF s l)
theorem ZpD (n lo hi:Int):(!inR n lo hi)=(decide (n<lo)||decide (hi<n)):=by
 unfold inR
 rw[Bool.eq_iff_iff]
 simp only[Bool.not_eq_true',Bool.and_eq_false_iff,decide_eq_false_iff_not,Bool.or_eq_true,decide_eq_true_eq]
 omega
theorem ZjX (n lo hi:Int):PureOK Tryd.prog Zax 42 [.v (.i .i64) n, .v (.i .i64) lo, .v (.i .i64) hi] (fun V=>V= .v .b (!inR n lo hi)):=by
 refine Zav Zaq Tryd.func42 ?_
 rw[ZpD]
 refine Zae ?_
 refine Zaa ?_
 refine Zad ?_
 cases h1:decide (n<lo)with
 |true=>
  refine Zae ?_
  iterate 4 refine Zaa ?_
  refine Zai h1 ?_
  refine Zai h1 ?_
  refine Zai h1 ?_
  refine Zas h1 ?_
  refine Zaa ?_
  refine Zad ?_
  rfl
 |false=>
  refine Zae ?_
  iterate 4 refine Zaa ?_
  refine Zac h1 ?_
  refine Zac h1 ?_
  refine Zac h1 ?_
  refine Zap h1 ?_
  refine Zaa ?_
  refine Zad ?_
  rfl
theorem Zf8 (n lo hi:Int):PureOK Tryd.prog Zax 34 [.v (.i .i64) n, .v (.i .i64) lo, .v (.i .i64) hi] (fun V=>V= .v .b (inR n lo hi)):=by
 refine Zav Zaq Tryd.func34 ?_
 have e:inR n lo hi= !(decide (n<lo)||decide (hi<n)):=by rw[←ZpD,Bool.not_not]
 rw[e]
 refine Zae ?_
 refine Zaa ?_
 refine Zad ?_
 cases h1:decide (n<lo)with
 |true=>
  refine Zae ?_
  iterate 4 refine Zaa ?_
  refine Zai h1 ?_
  refine Zai h1 ?_
  refine Zai h1 ?_
  refine Zas h1 ?_
  iterate 2 refine Zaa ?_
  refine Zad ?_
  rfl
 |false=>
  refine Zae ?_
  iterate 4 refine Zaa ?_
  refine Zac h1 ?_
  refine Zac h1 ?_
  refine Zac h1 ?_
  refine Zap h1 ?_
  iterate 2 refine Zaa ?_
  refine Zad ?_
  rfl
theorem ZbX (n:Int):PureOK Tryd.prog Zax 43 [.v (.i .i64) n] (fun V=>V= .v .b (inR n 0 100000)):=by
 refine Zav Zaq Tryd.func43 ?_
 have h:=ZjX n 0 100000
 refine Zae ?_
 refine Zaa ?_
 refine Zad ?_
 refine Zae ?_
 refine Zaa ?_
 refine Zaf rfl ((h).mono ?_)
 rintro _ rfl
 refine Zab rfl rfl ?_
 iterate 2 refine Zaa ?_
 refine Zad ?_
 exact congrArg (fun x=>SV.v .b x) (Bool.not_not _)
def brV (b:Br):SV:= .agg [.v .s b.1, .v .s b.2.1, .v .s b.2.2.1, .v (.i .i64) b.2.2.2.1, .v (.i .i64) b.2.2.2.2.1, .v (.i .i64) b.2.2.2.2.2.1, .v (.i .i64) b.2.2.2.2.2.2.1, .v (.i .i64) b.2.2.2.2.2.2.2.1, .v (.i .i64) b.2.2.2.2.2.2.2.2]
set_option maxHeartbeats 8000000 in
theorem Zp2 (b:Br):PureOK Tryd.prog Zax 29 [brV b] (fun V=>V= .v (.i .i64) (bif ZfN b then(4:Int)else 0)):=by
 refine Zav Zaq Tryd.func29 ?_
 have c1:=ZjX b.2.2.2.1 1 10000
 have c2:=ZjX b.2.2.2.2.1 500 1500
 have c3:=ZjX b.2.2.2.2.2.1 (-1000) 1000
 have c4:=ZjX b.2.2.2.2.2.2.1 0 100000
 have c5:=ZjX b.2.2.2.2.2.2.2.1 b.2.2.2.2.2.2.1 100000
 have c6:=ZjX b.2.2.2.2.2.2.2.2 0 200000
 have hb:ZfN b= !(inR b.2.2.2.1 1 10000&&inR b.2.2.2.2.1 500 1500&&inR b.2.2.2.2.2.1 (-1000) 1000&&inR b.2.2.2.2.2.2.1 0 100000&&inR b.2.2.2.2.2.2.2.1 b.2.2.2.2.2.2.1 100000&&inR b.2.2.2.2.2.2.2.2 0 200000):=rfl
 rw[hb]
 obtain⟨i1,h1⟩: ∃x,inR b.2.2.2.1 1 10000=x:=⟨_,rfl⟩
 rw[h1]at c1
 obtain⟨i2,h2⟩: ∃x,inR b.2.2.2.2.1 500 1500=x:=⟨_,rfl⟩
 rw[h2]at c2
 obtain⟨i3,h3⟩: ∃x,inR b.2.2.2.2.2.1 (-1000) 1000=x:=⟨_,rfl⟩
 rw[h3]at c3
 obtain⟨i4,h4⟩: ∃x,inR b.2.2.2.2.2.2.1 0 100000=x:=⟨_,rfl⟩
 rw[h4]at c4
 obtain⟨i5,h5⟩: ∃x,inR b.2.2.2.2.2.2.2.1 b.2.2.2.2.2.2.1 100000=x:=⟨_,rfl⟩
 rw[h5]at c5
 obtain⟨i6,h6⟩: ∃x,inR b.2.2.2.2.2.2.2.2 0 200000=x:=⟨_,rfl⟩
 rw[h6]at c6
 rw[h1,h2,h3,h4,h5,h6]
 refine Zae ?_
 refine ZaQ ?_
 refine Zaa ?_
 refine Zad ?_
 cases i1 with
 |false=>
  refine Zae ?_
  refine Zaa ?_
  refine Zag rfl (fun _=>rfl) rfl rfl rfl ?_
  refine Zaf rfl ((c1).mono ?_)
  rintro _ rfl
  refine Zab rfl rfl ?_
  refine Zaa ?_
  refine Zai rfl ?_
  refine Zai rfl ?_
  refine Zai rfl ?_
  refine Zas rfl ?_
  refine Zaa ?_
  refine Zai rfl ?_
  refine Zai rfl ?_
  refine Zai rfl ?_
  refine Zas rfl ?_
  refine Zaa ?_
  refine Zai rfl ?_
  refine Zai rfl ?_
  refine Zai rfl ?_
  refine Zas rfl ?_
  refine Zaa ?_
  refine Zai rfl ?_
  refine Zai rfl ?_
  refine Zai rfl ?_
  refine Zai rfl ?_
  refine Zai rfl ?_
  refine Zas rfl ?_
  refine Zaa ?_
  refine Zai rfl ?_
  refine Zai rfl ?_
  refine Zai rfl ?_
  refine Zas rfl ?_
  refine Zad ?_
  refine brT rfl ?_
  refine Zae ?_
  refine Zaa ?_
  refine Zad ?_
  rfl
 |true=>
  cases i2 with
  |false=>
   refine Zae ?_
   refine Zaa ?_
   refine Zag rfl (fun _=>rfl) rfl rfl rfl ?_
   refine Zaf rfl ((c1).mono ?_)
   rintro _ rfl
   refine Zab rfl rfl ?_
   refine Zaa ?_
   refine Zac rfl ?_
   refine Zal rfl rfl rfl rfl (fun _=>rfl) rfl rfl rfl ?_
   refine Zan rfl rfl rfl rfl ((c2).mono ?_)
   rintro _ rfl
   refine Zab rfl rfl ?_
   refine Zap rfl ?_
   refine Zaa ?_
   refine Zai rfl ?_
   refine Zai rfl ?_
   refine Zai rfl ?_
   refine Zas rfl ?_
   refine Zaa ?_
   refine Zai rfl ?_
   refine Zai rfl ?_
   refine Zai rfl ?_
   refine Zas rfl ?_
   refine Zaa ?_
   refine Zai rfl ?_
   refine Zai rfl ?_
   refine Zai rfl ?_
   refine Zai rfl ?_
   refine Zai rfl ?_
   refine Zas rfl ?_
   refine Zaa ?_
   refine Zai rfl ?_
   refine Zai rfl ?_
   refine Zai rfl ?_
   refine Zas rfl ?_
   refine Zad ?_
   refine brT rfl ?_
   refine Zae ?_
   refine Zaa ?_
   refine Zad ?_
   rfl
  |true=>
   cases i3 with
   |false=>
    refine Zae ?_
    refine Zaa ?_
    refine Zag rfl (fun _=>rfl) rfl rfl rfl ?_
    refine Zaf rfl ((c1).mono ?_)
    rintro _ rfl
    refine Zab rfl rfl ?_
    refine Zaa ?_
    refine Zac rfl ?_
    refine Zal rfl rfl rfl rfl (fun _=>rfl) rfl rfl rfl ?_
    refine Zan rfl rfl rfl rfl ((c2).mono ?_)
    rintro _ rfl
    refine Zab rfl rfl ?_
    refine Zap rfl ?_
    refine Zaa ?_
    refine Zac rfl ?_
    refine Zal rfl rfl rfl rfl (fun _=>rfl) rfl rfl rfl ?_
    refine Zan rfl rfl rfl rfl ((c3).mono ?_)
    rintro _ rfl
    refine Zab rfl rfl ?_
    refine Zap rfl ?_
    refine Zaa ?_
    refine Zai rfl ?_
    refine Zai rfl ?_
    refine Zai rfl ?_
    refine Zas rfl ?_
    refine Zaa ?_
    refine Zai rfl ?_
    refine Zai rfl ?_
    refine Zai rfl ?_
    refine Zai rfl ?_
    refine Zai rfl ?_
    refine Zas rfl ?_
    refine Zaa ?_
    refine Zai rfl ?_
    refine Zai rfl ?_
    refine Zai rfl ?_
    refine Zas rfl ?_
    refine Zad ?_
    refine brT rfl ?_
    refine Zae ?_
    refine Zaa ?_
    refine Zad ?_
    rfl
   |true=>
    cases i4 with
    |false=>
     refine Zae ?_
     refine Zaa ?_
     refine Zag rfl (fun _=>rfl) rfl rfl rfl ?_
     refine Zaf rfl ((c1).mono ?_)
     rintro _ rfl
     refine Zab rfl rfl ?_
     refine Zaa ?_
     refine Zac rfl ?_
     refine Zal rfl rfl rfl rfl (fun _=>rfl) rfl rfl rfl ?_
     refine Zan rfl rfl rfl rfl ((c2).mono ?_)
     rintro _ rfl
     refine Zab rfl rfl ?_
     refine Zap rfl ?_
     refine Zaa ?_
     refine Zac rfl ?_
     refine Zal rfl rfl rfl rfl (fun _=>rfl) rfl rfl rfl ?_
     refine Zan rfl rfl rfl rfl ((c3).mono ?_)
     rintro _ rfl
     refine Zab rfl rfl ?_
     refine Zap rfl ?_
     refine Zaa ?_
     refine Zac rfl ?_
     refine Zal rfl rfl rfl rfl (fun _=>rfl) rfl rfl rfl ?_
     refine Zan rfl rfl rfl rfl ((c4).mono ?_)
     rintro _ rfl
     refine Zab rfl rfl ?_
     refine Zap rfl ?_
     refine Zaa ?_
     refine Zai rfl ?_
     refine Zai rfl ?_
     refine Zai rfl ?_
     refine Zai rfl ?_
     refine Zai rfl ?_
     refine Zas rfl ?_
     refine Zaa ?_
     refine Zai rfl ?_
     refine Zai rfl ?_
     refine Zai rfl ?_
     refine Zas rfl ?_
     refine Zad ?_
     refine brT rfl ?_
     refine Zae ?_
     refine Zaa ?_
     refine Zad ?_
     rfl
    |true=>
     cases i5 with
     |false=>
      refine Zae ?_
      refine Zaa ?_
      refine Zag rfl (fun _=>rfl) rfl rfl rfl ?_
      refine Zaf rfl ((c1).mono ?_)
      rintro _ rfl
      refine Zab rfl rfl ?_
      refine Zaa ?_
      refine Zac rfl ?_
      refine Zal rfl rfl rfl rfl (fun _=>rfl) rfl rfl rfl ?_
      refine Zan rfl rfl rfl rfl ((c2).mono ?_)
      rintro _ rfl
      refine Zab rfl rfl ?_
      refine Zap rfl ?_
      refine Zaa ?_
      refine Zac rfl ?_
      refine Zal rfl rfl rfl rfl (fun _=>rfl) rfl rfl rfl ?_
      refine Zan rfl rfl rfl rfl ((c3).mono ?_)
      rintro _ rfl
      refine Zab rfl rfl ?_
      refine Zap rfl ?_
      refine Zaa ?_
      refine Zac rfl ?_
      refine Zal rfl rfl rfl rfl (fun _=>rfl) rfl rfl rfl ?_
      refine Zan rfl rfl rfl rfl ((c4).mono ?_)
      rintro _ rfl
      refine Zab rfl rfl ?_
      refine Zap rfl ?_
      refine Zaa ?_
      refine Zac rfl ?_
      refine Zal rfl rfl rfl rfl (fun _=>rfl) rfl rfl rfl ?_
      refine Zac rfl ?_
      refine Zal rfl rfl rfl rfl (fun _=>rfl) rfl rfl rfl ?_
      refine Zan rfl rfl rfl rfl ((c5).mono ?_)
      rintro _ rfl
      refine Zab rfl rfl ?_
      refine Zap rfl ?_
      refine Zaa ?_
      refine Zai rfl ?_
      refine Zai rfl ?_
      refine Zai rfl ?_
      refine Zas rfl ?_
      refine Zad ?_
      refine brT rfl ?_
      refine Zae ?_
      refine Zaa ?_
      refine Zad ?_
      rfl
     |true=>
      cases i6 with
      |false=>
       refine Zae ?_
       refine Zaa ?_
       refine Zag rfl (fun _=>rfl) rfl rfl rfl ?_
       refine Zaf rfl ((c1).mono ?_)
       rintro _ rfl
       refine Zab rfl rfl ?_
       refine Zaa ?_
       refine Zac rfl ?_
       refine Zal rfl rfl rfl rfl (fun _=>rfl) rfl rfl rfl ?_
       refine Zan rfl rfl rfl rfl ((c2).mono ?_)
       rintro _ rfl
       refine Zab rfl rfl ?_
       refine Zap rfl ?_
       refine Zaa ?_
       refine Zac rfl ?_
       refine Zal rfl rfl rfl rfl (fun _=>rfl) rfl rfl rfl ?_
       refine Zan rfl rfl rfl rfl ((c3).mono ?_)
       rintro _ rfl
       refine Zab rfl rfl ?_
       refine Zap rfl ?_
       refine Zaa ?_
       refine Zac rfl ?_
       refine Zal rfl rfl rfl rfl (fun _=>rfl) rfl rfl rfl ?_
       refine Zan rfl rfl rfl rfl ((c4).mono ?_)
       rintro _ rfl
       refine Zab rfl rfl ?_
       refine Zap rfl ?_
       refine Zaa ?_
       refine Zac rfl ?_
       refine Zal rfl rfl rfl rfl (fun _=>rfl) rfl rfl rfl ?_
       refine Zac rfl ?_
       refine Zal rfl rfl rfl rfl (fun _=>rfl) rfl rfl rfl ?_
       refine Zan rfl rfl rfl rfl ((c5).mono ?_)
       rintro _ rfl
       refine Zab rfl rfl ?_
       refine Zap rfl ?_
       refine Zaa ?_
       refine Zac rfl ?_
       refine Zal rfl rfl rfl rfl (fun _=>rfl) rfl rfl rfl ?_
       refine Zan rfl rfl rfl rfl ((c6).mono ?_)
       rintro _ rfl
       refine Zab rfl rfl ?_
       refine Zap rfl ?_
       refine Zad ?_
       refine brT rfl ?_
       refine Zae ?_
       refine Zaa ?_
       refine Zad ?_
       rfl
      |true=>
       refine Zae ?_
       refine Zaa ?_
       refine Zag rfl (fun _=>rfl) rfl rfl rfl ?_
       refine Zaf rfl ((c1).mono ?_)
       rintro _ rfl
       refine Zab rfl rfl ?_
       refine Zaa ?_
       refine Zac rfl ?_
       refine Zal rfl rfl rfl rfl (fun _=>rfl) rfl rfl rfl ?_
       refine Zan rfl rfl rfl rfl ((c2).mono ?_)
       rintro _ rfl
       refine Zab rfl rfl ?_
       refine Zap rfl ?_
       refine Zaa ?_
       refine Zac rfl ?_
       refine Zal rfl rfl rfl rfl (fun _=>rfl) rfl rfl rfl ?_
       refine Zan rfl rfl rfl rfl ((c3).mono ?_)
       rintro _ rfl
       refine Zab rfl rfl ?_
       refine Zap rfl ?_
       refine Zaa ?_
       refine Zac rfl ?_
       refine Zal rfl rfl rfl rfl (fun _=>rfl) rfl rfl rfl ?_
       refine Zan rfl rfl rfl rfl ((c4).mono ?_)
       rintro _ rfl
       refine Zab rfl rfl ?_
       refine Zap rfl ?_
       refine Zaa ?_
       refine Zac rfl ?_
       refine Zal rfl rfl rfl rfl (fun _=>rfl) rfl rfl rfl ?_
       refine Zac rfl ?_
       refine Zal rfl rfl rfl rfl (fun _=>rfl) rfl rfl rfl ?_
       refine Zan rfl rfl rfl rfl ((c5).mono ?_)
       rintro _ rfl
       refine Zab rfl rfl ?_
       refine Zap rfl ?_
       refine Zaa ?_
       refine Zac rfl ?_
       refine Zal rfl rfl rfl rfl (fun _=>rfl) rfl rfl rfl ?_
       refine Zan rfl rfl rfl rfl ((c6).mono ?_)
       rintro _ rfl
       refine Zab rfl rfl ?_
       refine Zap rfl ?_
       refine Zad ?_
       refine brF rfl ?_
       refine Zae ?_
       refine Zaa ?_
       refine Zad ?_
       rfl
set_option maxHeartbeats 8000000 in
theorem Zjy (b:Br):PureOK Tryd.prog Zax 33 [brV b] (fun V=>V= .v (.i .i64) (bif ZfN b then(4:Int)else 0)):=by
 refine Zav Zaq Tryd.func33 ?_
 have c1:=Zf8 b.2.2.2.1 1 10000
 have c2:=Zf8 b.2.2.2.2.1 500 1500
 have c3:=Zf8 b.2.2.2.2.2.1 (-1000) 1000
 have c4:=Zf8 b.2.2.2.2.2.2.1 0 100000
 have c5:=Zf8 b.2.2.2.2.2.2.2.1 b.2.2.2.2.2.2.1 100000
 have c6:=Zf8 b.2.2.2.2.2.2.2.2 0 200000
 have hb:ZfN b= !(inR b.2.2.2.1 1 10000&&inR b.2.2.2.2.1 500 1500&&inR b.2.2.2.2.2.1 (-1000) 1000&&inR b.2.2.2.2.2.2.1 0 100000&&inR b.2.2.2.2.2.2.2.1 b.2.2.2.2.2.2.1 100000&&inR b.2.2.2.2.2.2.2.2 0 200000):=rfl
 rw[hb]
 obtain⟨i1,h1⟩: ∃x,inR b.2.2.2.1 1 10000=x:=⟨_,rfl⟩
 rw[h1]at c1
 obtain⟨i2,h2⟩: ∃x,inR b.2.2.2.2.1 500 1500=x:=⟨_,rfl⟩
 rw[h2]at c2
 obtain⟨i3,h3⟩: ∃x,inR b.2.2.2.2.2.1 (-1000) 1000=x:=⟨_,rfl⟩
 rw[h3]at c3
 obtain⟨i4,h4⟩: ∃x,inR b.2.2.2.2.2.2.1 0 100000=x:=⟨_,rfl⟩
 rw[h4]at c4
 obtain⟨i5,h5⟩: ∃x,inR b.2.2.2.2.2.2.2.1 b.2.2.2.2.2.2.1 100000=x:=⟨_,rfl⟩
 rw[h5]at c5
 obtain⟨i6,h6⟩: ∃x,inR b.2.2.2.2.2.2.2.2 0 200000=x:=⟨_,rfl⟩
 rw[h6]at c6
 rw[h1,h2,h3,h4,h5,h6]
 refine Zae ?_
 refine ZaQ ?_
 refine Zaa ?_
 refine Zad ?_
 cases i1 with
 |false=>
  refine Zae ?_
  refine Zaa ?_
  refine Zag rfl (fun _=>rfl) rfl rfl rfl ?_
  refine Zaf rfl ((c1).mono ?_)
  rintro _ rfl
  refine Zab rfl rfl ?_
  refine Zaa ?_
  refine Zai rfl ?_
  refine Zai rfl ?_
  refine Zai rfl ?_
  refine Zap rfl ?_
  refine Zaa ?_
  refine Zai rfl ?_
  refine Zai rfl ?_
  refine Zai rfl ?_
  refine Zap rfl ?_
  refine Zaa ?_
  refine Zai rfl ?_
  refine Zai rfl ?_
  refine Zai rfl ?_
  refine Zap rfl ?_
  refine Zaa ?_
  refine Zai rfl ?_
  refine Zai rfl ?_
  refine Zai rfl ?_
  refine Zai rfl ?_
  refine Zai rfl ?_
  refine Zap rfl ?_
  refine Zaa ?_
  refine Zai rfl ?_
  refine Zai rfl ?_
  refine Zai rfl ?_
  refine Zap rfl ?_
  refine Zad ?_
  refine brF rfl ?_
  refine Zae ?_
  refine Zaa ?_
  refine Zad ?_
  rfl
 |true=>
  cases i2 with
  |false=>
   refine Zae ?_
   refine Zaa ?_
   refine Zag rfl (fun _=>rfl) rfl rfl rfl ?_
   refine Zaf rfl ((c1).mono ?_)
   rintro _ rfl
   refine Zab rfl rfl ?_
   refine Zaa ?_
   refine Zac rfl ?_
   refine Zal rfl rfl rfl rfl (fun _=>rfl) rfl rfl rfl ?_
   refine Zan rfl rfl rfl rfl ((c2).mono ?_)
   rintro _ rfl
   refine Zab rfl rfl ?_
   refine Zas rfl ?_
   refine Zaa ?_
   refine Zai rfl ?_
   refine Zai rfl ?_
   refine Zai rfl ?_
   refine Zap rfl ?_
   refine Zaa ?_
   refine Zai rfl ?_
   refine Zai rfl ?_
   refine Zai rfl ?_
   refine Zap rfl ?_
   refine Zaa ?_
   refine Zai rfl ?_
   refine Zai rfl ?_
   refine Zai rfl ?_
   refine Zai rfl ?_
   refine Zai rfl ?_
   refine Zap rfl ?_
   refine Zaa ?_
   refine Zai rfl ?_
   refine Zai rfl ?_
   refine Zai rfl ?_
   refine Zap rfl ?_
   refine Zad ?_
   refine brF rfl ?_
   refine Zae ?_
   refine Zaa ?_
   refine Zad ?_
   rfl
  |true=>
   cases i3 with
   |false=>
    refine Zae ?_
    refine Zaa ?_
    refine Zag rfl (fun _=>rfl) rfl rfl rfl ?_
    refine Zaf rfl ((c1).mono ?_)
    rintro _ rfl
    refine Zab rfl rfl ?_
    refine Zaa ?_
    refine Zac rfl ?_
    refine Zal rfl rfl rfl rfl (fun _=>rfl) rfl rfl rfl ?_
    refine Zan rfl rfl rfl rfl ((c2).mono ?_)
    rintro _ rfl
    refine Zab rfl rfl ?_
    refine Zas rfl ?_
    refine Zaa ?_
    refine Zac rfl ?_
    refine Zal rfl rfl rfl rfl (fun _=>rfl) rfl rfl rfl ?_
    refine Zan rfl rfl rfl rfl ((c3).mono ?_)
    rintro _ rfl
    refine Zab rfl rfl ?_
    refine Zas rfl ?_
    refine Zaa ?_
    refine Zai rfl ?_
    refine Zai rfl ?_
    refine Zai rfl ?_
    refine Zap rfl ?_
    refine Zaa ?_
    refine Zai rfl ?_
    refine Zai rfl ?_
    refine Zai rfl ?_
    refine Zai rfl ?_
    refine Zai rfl ?_
    refine Zap rfl ?_
    refine Zaa ?_
    refine Zai rfl ?_
    refine Zai rfl ?_
    refine Zai rfl ?_
    refine Zap rfl ?_
    refine Zad ?_
    refine brF rfl ?_
    refine Zae ?_
    refine Zaa ?_
    refine Zad ?_
    rfl
   |true=>
    cases i4 with
    |false=>
     refine Zae ?_
     refine Zaa ?_
     refine Zag rfl (fun _=>rfl) rfl rfl rfl ?_
     refine Zaf rfl ((c1).mono ?_)
     rintro _ rfl
     refine Zab rfl rfl ?_
     refine Zaa ?_
     refine Zac rfl ?_
     refine Zal rfl rfl rfl rfl (fun _=>rfl) rfl rfl rfl ?_
     refine Zan rfl rfl rfl rfl ((c2).mono ?_)
     rintro _ rfl
     refine Zab rfl rfl ?_
     refine Zas rfl ?_
     refine Zaa ?_
     refine Zac rfl ?_
     refine Zal rfl rfl rfl rfl (fun _=>rfl) rfl rfl rfl ?_
     refine Zan rfl rfl rfl rfl ((c3).mono ?_)
     rintro _ rfl
     refine Zab rfl rfl ?_
     refine Zas rfl ?_
     refine Zaa ?_
     refine Zac rfl ?_
     refine Zal rfl rfl rfl rfl (fun _=>rfl) rfl rfl rfl ?_
     refine Zan rfl rfl rfl rfl ((c4).mono ?_)
     rintro _ rfl
     refine Zab rfl rfl ?_
     refine Zas rfl ?_
     refine Zaa ?_
     refine Zai rfl ?_
     refine Zai rfl ?_
     refine Zai rfl ?_
     refine Zai rfl ?_
     refine Zai rfl ?_
     refine Zap rfl ?_
     refine Zaa ?_
     refine Zai rfl ?_
     refine Zai rfl ?_
     refine Zai rfl ?_
     refine Zap rfl ?_
     refine Zad ?_
     refine brF rfl ?_
     refine Zae ?_
     refine Zaa ?_
     refine Zad ?_
     rfl
    |true=>
     cases i5 with
     |false=>
      refine Zae ?_
      refine Zaa ?_
      refine Zag rfl (fun _=>rfl) rfl rfl rfl ?_
      refine Zaf rfl ((c1).mono ?_)
      rintro _ rfl
      refine Zab rfl rfl ?_
      refine Zaa ?_
      refine Zac rfl ?_
      refine Zal rfl rfl rfl rfl (fun _=>rfl) rfl rfl rfl ?_
      refine Zan rfl rfl rfl rfl ((c2).mono ?_)
      rintro _ rfl
      refine Zab rfl rfl ?_
      refine Zas rfl ?_
      refine Zaa ?_
      refine Zac rfl ?_
      refine Zal rfl rfl rfl rfl (fun _=>rfl) rfl rfl rfl ?_
      refine Zan rfl rfl rfl rfl ((c3).mono ?_)
      rintro _ rfl
      refine Zab rfl rfl ?_
      refine Zas rfl ?_
      refine Zaa ?_
      refine Zac rfl ?_
      refine Zal rfl rfl rfl rfl (fun _=>rfl) rfl rfl rfl ?_
      refine Zan rfl rfl rfl rfl ((c4).mono ?_)
      rintro _ rfl
      refine Zab rfl rfl ?_
      refine Zas rfl ?_
      refine Zaa ?_
      refine Zac rfl ?_
      refine Zal rfl rfl rfl rfl (fun _=>rfl) rfl rfl rfl ?_
      refine Zac rfl ?_
      refine Zal rfl rfl rfl rfl (fun _=>rfl) rfl rfl rfl ?_
      refine Zan rfl rfl rfl rfl ((c5).mono ?_)
      rintro _ rfl
      refine Zab rfl rfl ?_
      refine Zas rfl ?_
      refine Zaa ?_
      refine Zai rfl ?_
      refine Zai rfl ?_
      refine Zai rfl ?_
      refine Zap rfl ?_
      refine Zad ?_
      refine brF rfl ?_
      refine Zae ?_
      refine Zaa ?_
      refine Zad ?_
      rfl
     |true=>
      cases i6 with
      |false=>
       refine Zae ?_
       refine Zaa ?_
       refine Zag rfl (fun _=>rfl) rfl rfl rfl ?_
       refine Zaf rfl ((c1).mono ?_)
       rintro _ rfl
       refine Zab rfl rfl ?_
       refine Zaa ?_
       refine Zac rfl ?_
       refine Zal rfl rfl rfl rfl (fun _=>rfl) rfl rfl rfl ?_
       refine Zan rfl rfl rfl rfl ((c2).mono ?_)
       rintro _ rfl
       refine Zab rfl rfl ?_
       refine Zas rfl ?_
       refine Zaa ?_
       refine Zac rfl ?_
       refine Zal rfl rfl rfl rfl (fun _=>rfl) rfl rfl rfl ?_
       refine Zan rfl rfl rfl rfl ((c3).mono ?_)
       rintro _ rfl
       refine Zab rfl rfl ?_
       refine Zas rfl ?_
       refine Zaa ?_
       refine Zac rfl ?_
       refine Zal rfl rfl rfl rfl (fun _=>rfl) rfl rfl rfl ?_
       refine Zan rfl rfl rfl rfl ((c4).mono ?_)
       rintro _ rfl
       refine Zab rfl rfl ?_
       refine Zas rfl ?_
       refine Zaa ?_
       refine Zac rfl ?_
       refine Zal rfl rfl rfl rfl (fun _=>rfl) rfl rfl rfl ?_
       refine Zac rfl ?_
       refine Zal rfl rfl rfl rfl (fun _=>rfl) rfl rfl rfl ?_
       refine Zan rfl rfl rfl rfl ((c5).mono ?_)
       rintro _ rfl
       refine Zab rfl rfl ?_
       refine Zas rfl ?_
       refine Zaa ?_
       refine Zac rfl ?_
       refine Zal rfl rfl rfl rfl (fun _=>rfl) rfl rfl rfl ?_
       refine Zan rfl rfl rfl rfl ((c6).mono ?_)
       rintro _ rfl
       refine Zab rfl rfl ?_
       refine Zas rfl ?_
       refine Zad ?_
       refine brF rfl ?_
       refine Zae ?_
       refine Zaa ?_
       refine Zad ?_
       rfl
      |true=>
       refine Zae ?_
       refine Zaa ?_
       refine Zag rfl (fun _=>rfl) rfl rfl rfl ?_
       refine Zaf rfl ((c1).mono ?_)
       rintro _ rfl
       refine Zab rfl rfl ?_
       refine Zaa ?_
       refine Zac rfl ?_
       refine Zal rfl rfl rfl rfl (fun _=>rfl) rfl rfl rfl ?_
       refine Zan rfl rfl rfl rfl ((c2).mono ?_)
       rintro _ rfl
       refine Zab rfl rfl ?_
       refine Zas rfl ?_
       refine Zaa ?_
       refine Zac rfl ?_
       refine Zal rfl rfl rfl rfl (fun _=>rfl) rfl rfl rfl ?_
       refine Zan rfl rfl rfl rfl ((c3).mono ?_)
       rintro _ rfl
       refine Zab rfl rfl ?_
       refine Zas rfl ?_
       refine Zaa ?_
       refine Zac rfl ?_
       refine Zal rfl rfl rfl rfl (fun _=>rfl) rfl rfl rfl ?_
       refine Zan rfl rfl rfl rfl ((c4).mono ?_)
       rintro _ rfl
       refine Zab rfl rfl ?_
       refine Zas rfl ?_
       refine Zaa ?_
       refine Zac rfl ?_
       refine Zal rfl rfl rfl rfl (fun _=>rfl) rfl rfl rfl ?_
       refine Zac rfl ?_
       refine Zal rfl rfl rfl rfl (fun _=>rfl) rfl rfl rfl ?_
       refine Zan rfl rfl rfl rfl ((c5).mono ?_)
       rintro _ rfl
       refine Zab rfl rfl ?_
       refine Zas rfl ?_
       refine Zaa ?_
       refine Zac rfl ?_
       refine Zal rfl rfl rfl rfl (fun _=>rfl) rfl rfl rfl ?_
       refine Zan rfl rfl rfl rfl ((c6).mono ?_)
       rintro _ rfl
       refine Zab rfl rfl ?_
       refine Zas rfl ?_
       refine Zad ?_
       refine brT rfl ?_
       refine Zae ?_
       refine Zaa ?_
       refine Zad ?_
       rfl
end Go.Proofs.YtbdkglokkepmfaaDoor
