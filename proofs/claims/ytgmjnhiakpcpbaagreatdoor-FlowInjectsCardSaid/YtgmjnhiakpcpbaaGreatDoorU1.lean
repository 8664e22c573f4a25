/-
 Places of texts in lists; numbers in ranges; the numbers of a branch.
-/
import Derived.Test.YtgmjnhiakpcpbaaGreatDoorHints
set_option linter.constructorNameAsVariable false
set_option linter.unusedSimpArgs false
set_option linter.unusedVariables false
namespace Go.Proofs.YtgmjnhiakpcpbaaGreatDoor
open Go.Am Go.Tx Ne
set_option maxRecDepth 100000
set_option maxHeartbeats 8000000 in
theorem Zjq (l:List Txt) (s:Txt) (hl:l.length≤1000):PureOK Tryz.prog ZaO 41 [.v (.l .s) l, .v .s s] (fun V=>V= .v (.i .i64) (ZbS s l 0)):=by
 refine Zaz Zaw Tryz.func41 ?_
 refine Zae ?_
 refine Zab ?_
 refine Zad ?_
 refine Zae ?_
 iterate 3 refine Zab ?_
 refine Zad ?_
 refine ZaH Zaw rfl (fun(i:Nat)=> [(0, .v (.l .s) l),(1, .v .s s),(7,nt l.length),(8,nt i)]) (fun _=> []) (fun i=>i≤l.length∧ZbS s l 0=ZbS s (l.drop i) i) (fun i=>l.length-i) ?_ 0 ⟨Nat.zero_le _,rfl⟩ (Zah ⟨rfl,rfl,rfl,rfl,trivial⟩)
 rintro i ⟨hi,he⟩
 cases h1:decide ((i:Int)<(l.length:Int))with
 |false=>
  have e:i=l.length:=by have:=of_decide_eq_false h1;omega
  refine Zae ?_
  refine Zab ?_
  refine Zad ?_
  refine brF h1 ?_
  refine Zae ?_
  refine Zab ?_
  refine Zad ?_
  exact congrArg (fun x=>SV.v (.i .i64) x) (by rw[he,e,List.drop_length];rfl)
 |true=>
  have hlt:i<l.length:=by have:=of_decide_eq_true h1;omega
  have gx:l[(i:Int).toNat]? =some l[i]:=by rw[Int.toNat_natCast];exact List.getElem?_eq_getElem hlt
  have ed:ZbS s (l.drop i) i=bif s==l[i]then(i:Int)else ZbS s (l.drop (i+1)) (i+1):=by rw[List.drop_eq_getElem_cons hlt,ZbS]
  obtain⟨x,ex⟩: ∃x,l[i]=x:=⟨_,rfl⟩
  rw[ex]at gx ed
  refine Zae ?_
  refine Zab ?_
  refine Zad ?_
  refine brT h1 ?_
  refine Zae ?_
  iterate 2 refine Zab ?_
  refine Zad ?_
  cases h2:(s==x)with
  |true=>
   rw[h2]at ed
   refine Zae ?_
   iterate 3 refine Zab ?_
   refine ZaY rfl (fun _=>rfl) (Int.natCast_nonneg i) gx rfl rfl ?_
   iterate 2 refine Zab ?_
   refine Zad ?_
   refine brT h2 ?_
   refine Zae ?_
   iterate 2 refine Zab ?_
   refine Zad ?_
   refine ZaA ?_
   repeat (first|refine Zau ?_|refine Zav ?_|refine Zar ?_)
   exact congrArg (fun x=>SV.v (.i .i64) x) (he.trans ed).symm
  |false=>
   rw[h2]at ed
   refine Zae ?_
   iterate 3 refine Zab ?_
   refine ZaY rfl (fun _=>rfl) (Int.natCast_nonneg i) gx rfl rfl ?_
   iterate 2 refine Zab ?_
   refine Zad ?_
   refine brF h2 ?_
   refine Zae ?_
   iterate 2 refine Zab ?_
   refine Zad ?_
   refine⟨i+1,⟨hlt,he.trans ed⟩,by show l.length-(i+1)<l.length-i;omega, ?_⟩
   exact Zah ⟨rfl,rfl,rfl,congrArg (fun x=>some (SV.v (.i .i64) x)) (Za5 (by omega)),trivial⟩
theorem Zqv (a b:Txt):(a==b)=(b==a):=by
 rw[Bool.eq_iff_iff,beq_iff_eq,beq_iff_eq];exact⟨Eq.symm,Eq.symm⟩
set_option maxHeartbeats 8000000 in
theorem ZsH (l:List Txt) (s:Txt) (hl:l.length≤1000):PureOK Tryz.prog ZaO 54 [.v (.l .s) l, .v .s s] (fun V=>V= .v (.i .i64) (ZbS s l 0)):=by
 refine Zaz Zaw Tryz.func54 ?_
 refine Zae ?_
 refine Zab ?_
 refine Zad ?_
 refine Zae ?_
 iterate 3 refine Zab ?_
 refine Zad ?_
 refine ZaH Zaw rfl (fun(i:Nat)=> [(1, .v .s s),(7, .v (.l .s) l),(8,nt l.length),(9,nt i)]) (fun _=> []) (fun i=>i≤l.length∧ZbS s l 0=ZbS s (l.drop i) i) (fun i=>l.length-i) ?_ 0 ⟨Nat.zero_le _,rfl⟩ (Zah ⟨rfl,rfl,rfl,rfl,trivial⟩)
 rintro i ⟨hi,he⟩
 cases h1:decide ((i:Int)<(l.length:Int))with
 |false=>
  have e:i=l.length:=by have:=of_decide_eq_false h1;omega
  refine Zae ?_
  refine Zab ?_
  refine Zad ?_
  refine brF h1 ?_
  refine Zae ?_
  refine Zab ?_
  refine Zad ?_
  exact congrArg (fun x=>SV.v (.i .i64) x) (by rw[he,e,List.drop_length];rfl)
 |true=>
  have hlt:i<l.length:=by have:=of_decide_eq_true h1;omega
  have gx:l[(i:Int).toNat]? =some l[i]:=by rw[Int.toNat_natCast];exact List.getElem?_eq_getElem hlt
  have ed:ZbS s (l.drop i) i=bif l[i]==s then(i:Int)else ZbS s (l.drop (i+1)) (i+1):=by rw[List.drop_eq_getElem_cons hlt,ZbS,Zqv]
  obtain⟨x,ex⟩: ∃x,l[i]=x:=⟨_,rfl⟩
  rw[ex]at gx ed
  refine Zae ?_
  refine Zab ?_
  refine Zad ?_
  refine brT h1 ?_
  refine Zae ?_
  refine Zab ?_
  refine ZaY rfl (fun _=>rfl) (Int.natCast_nonneg i) gx rfl rfl ?_
  iterate 3 refine Zab ?_
  refine Zad ?_
  cases h2:(x==s)with
  |true=>
   rw[h2]at ed
   refine Zae ?_
   iterate 3 refine Zab ?_
   refine Zad ?_
   refine brT h2 ?_
   refine Zae ?_
   iterate 2 refine Zab ?_
   refine Zad ?_
   refine ZaA ?_
   repeat (first|refine Zau ?_|refine Zav ?_|refine Zar ?_)
   exact congrArg (fun x=>SV.v (.i .i64) x) (he.trans ed).symm
  |false=>
   rw[h2]at ed
   refine Zae ?_
   iterate 3 refine Zab ?_
   refine Zad ?_
   refine brF h2 ?_
   refine Zae ?_
   iterate 2 refine Zab ?_
   refine Zad ?_
   refine⟨i+1,⟨hlt,he.trans ed⟩,by show l.length-(i+1)<l.length-i;omega, ?_⟩
   exact Zah ⟨rfl,rfl,rfl,congrArg (fun x=>some (SV.v (.i .i64) x)) (Za5 (by omega)),trivial⟩
theorem ZrK (s:Txt) (l:List Txt):decide ((0:Int)≤ZbS s l 0)=ZcA s l:=(Zj4 s l 0).symm
theorem Znx (l:List Txt) (s:Txt) (hl:l.length≤1000):PureOK Tryz.prog ZaO 78 [.v (.l .s) l, .v .s s] (fun V=>V= .v .b (ZcA s l)):=by
 refine Zaz Zaw Tryz.func78 ?_
 have h:=Zjq l s hl
 refine Zae ?_
 refine Zab ?_
 refine Zad ?_
 refine Zae ?_
 iterate 2 refine Zab ?_
 refine Zaf rfl ((h).mono ?_)
 rintro _ rfl
 refine Zac rfl rfl ?_
 iterate 2 refine Zab ?_
 refine Zad ?_
 exact congrArg (fun x=>SV.v .b x) (ZrK s l)
theorem Zui (l:List Txt) (s:Txt) (hl:l.length≤1000):PureOK Tryz.prog ZaO 26 [.v (.l .s) l, .v .s s] (fun V=>V= .v .b (ZcA s l)):=by
 refine Zaz Zaw Tryz.func26 ?_
 have h:=ZsH l s hl
 refine Zae ?_
 refine Zab ?_
 refine Zad ?_
 refine Zae ?_
 iterate 2 refine Zab ?_
 refine Zaf rfl ((h).mono ?_)
 rintro _ rfl
 refine Zac rfl rfl ?_
 iterate 2 refine Zab ?_
 refine Zad ?_
 exact congrArg (fun x=>SV.v .b x) (ZrK s l)
theorem Zpj (n lo hi:Int):(!inR n lo hi)=(decide (n<lo)||decide (hi<n)):=by
 unfold inR
 rw[Bool.eq_iff_iff]
 simp only[Bool.not_eq_true',Bool.and_eq_false_iff,decide_eq_false_iff_not,Bool.or_eq_true,decide_eq_true_eq]
 omega
theorem ZjM (n lo hi:Int):PureOK Tryz.prog ZaO 79 [.v (.i .i64) n, .v (.i .i64) lo, .v (.i .i64) hi] (fun V=>V= .v .b (!inR n lo hi)):=by
 refine Zaz Zaw Tryz.func79 ?_
 rw[Zpj]
 refine Zae ?_
 refine Zab ?_
 refine Zad ?_
 cases h1:decide (n<lo)with
 |true=>
  refine Zae ?_
  iterate 4 refine Zab ?_
  refine Zag h1 ?_
  refine Zag h1 ?_
  refine Zag h1 ?_
  refine Zaq h1 ?_
  refine Zab ?_
  refine Zad ?_
  rfl
 |false=>
  refine Zae ?_
  iterate 4 refine Zab ?_
  refine Zaa h1 ?_
  refine Zaa h1 ?_
  refine Zaa h1 ?_
  refine Zap h1 ?_
  refine Zab ?_
  refine Zad ?_
  rfl
theorem Zf6 (n lo hi:Int):PureOK Tryz.prog ZaO 56 [.v (.i .i64) n, .v (.i .i64) lo, .v (.i .i64) hi] (fun V=>V= .v .b (inR n lo hi)):=by
 refine Zaz Zaw Tryz.func56 ?_
 have e:inR n lo hi= !(decide (n<lo)||decide (hi<n)):=by rw[←Zpj,Bool.not_not]
 rw[e]
 refine Zae ?_
 refine Zab ?_
 refine Zad ?_
 cases h1:decide (n<lo)with
 |true=>
  refine Zae ?_
  iterate 4 refine Zab ?_
  refine Zag h1 ?_
  refine Zag h1 ?_
  refine Zag h1 ?_
  refine Zaq h1 ?_
  iterate 2 refine Zab ?_
  refine Zad ?_
  rfl
 |false=>
  refine Zae ?_
  iterate 4 refine Zab ?_
  refine Zaa h1 ?_
  refine Zaa h1 ?_
  refine Zaa h1 ?_
  refine Zap h1 ?_
  iterate 2 refine Zab ?_
  refine Zad ?_
  rfl
theorem ZbX (n:Int):PureOK Tryz.prog ZaO 80 [.v (.i .i64) n] (fun V=>V= .v .b (inR n 0 100000)):=by
 refine Zaz Zaw Tryz.func80 ?_
 have h:=ZjM n 0 100000
 refine Zae ?_
 refine Zab ?_
 refine Zad ?_
 refine Zae ?_
 refine Zab ?_
 refine Zaf rfl ((h).mono ?_)
 rintro _ rfl
 refine Zac rfl rfl ?_
 iterate 2 refine Zab ?_
 refine Zad ?_
 exact congrArg (fun x=>SV.v .b x) (Bool.not_not _)
def brV (b:Br):SV:= .agg [.v .s b.1, .v .s b.2.1, .v .s b.2.2.1, .v (.i .i64) b.2.2.2.1, .v (.i .i64) b.2.2.2.2.1, .v (.i .i64) b.2.2.2.2.2.1, .v (.i .i64) b.2.2.2.2.2.2.1, .v (.i .i64) b.2.2.2.2.2.2.2.1, .v (.i .i64) b.2.2.2.2.2.2.2.2]
set_option maxHeartbeats 8000000 in
theorem ZqN (b:Br):PureOK Tryz.prog ZaO 45 [brV b] (fun V=>V= .v (.i .i64) (bif ZhU b then(4:Int)else 0)):=by
 refine Zaz Zaw Tryz.func45 ?_
 have c1:=ZjM b.2.2.2.1 1 10000
 have c2:=ZjM b.2.2.2.2.1 500 1500
 have c3:=ZjM b.2.2.2.2.2.1 (-1000) 1000
 have c4:=ZjM b.2.2.2.2.2.2.1 0 100000
 have c5:=ZjM b.2.2.2.2.2.2.2.1 b.2.2.2.2.2.2.1 100000
 have c6:=ZjM b.2.2.2.2.2.2.2.2 0 200000
 have hb:ZhU b= !(inR b.2.2.2.1 1 10000&&inR b.2.2.2.2.1 500 1500&&inR b.2.2.2.2.2.1 (-1000) 1000&&inR b.2.2.2.2.2.2.1 0 100000&&inR b.2.2.2.2.2.2.2.1 b.2.2.2.2.2.2.1 100000&&inR b.2.2.2.2.2.2.2.2 0 200000):=rfl
 rw[hb]
 obtain⟨i1,h1⟩: ∃x,inR b.2.2.2.1 1 10000=x:=⟨_,rfl⟩
 rw[h1]at c1
 obtain⟨i2,h2⟩: ∃x,inR b.2.2.2.2.1 500 1500=x:=⟨_,rfl⟩
 rw[h2]at c2
 obtain⟨i3,h3⟩: ∃x,inR b.2.2.2.2.2.1 (-1000) 1000=x:=⟨_,rfl⟩
 rw[h3]at c3
 obtain⟨i4,h4⟩: ∃x,inR b.2.2.2.2.2.2.1 0 100000=x:=⟨_,rfl⟩
 rw[h4]at c4
 obtain⟨i5,h5⟩: ∃x,inR b.2.2.2.2.2.2.2.1 b.2.2.2.2.2.2.1 100000=x:=⟨_,rfl⟩
 rw[h5]at c5
 obtain⟨i6,h6⟩: ∃x,inR b.2.2.2.2.2.2.2.2 0 200000=x:=⟨_,rfl⟩
 rw[h6]at c6
 rw[h1,h2,h3,h4,h5,h6]
 refine Zae ?_
 refine Zbs ?_
 refine Zab ?_
 refine Zad ?_
 cases i1 with
 |false=>
  refine Zae ?_
  refine Zab ?_
  refine Zal rfl (fun _=>rfl) rfl rfl rfl ?_
  refine Zaf rfl ((c1).mono ?_)
  rintro _ rfl
  refine Zac rfl rfl ?_
  refine Zab ?_
  refine Zag rfl ?_
  refine Zag rfl ?_
  refine Zag rfl ?_
  refine Zaq rfl ?_
  refine Zab ?_
  refine Zag rfl ?_
  refine Zag rfl ?_
  refine Zag rfl ?_
  refine Zaq rfl ?_
  refine Zab ?_
  refine Zag rfl ?_
  refine Zag rfl ?_
  refine Zag rfl ?_
  refine Zaq rfl ?_
  refine Zab ?_
  refine Zag rfl ?_
  refine Zag rfl ?_
  refine Zag rfl ?_
  refine Zag rfl ?_
  refine Zag rfl ?_
  refine Zaq rfl ?_
  refine Zab ?_
  refine Zag rfl ?_
  refine Zag rfl ?_
  refine Zag rfl ?_
  refine Zaq rfl ?_
  refine Zad ?_
  refine brT rfl ?_
  refine Zae ?_
  refine Zab ?_
  refine Zad ?_
  rfl
 |true=>
  cases i2 with
  |false=>
   refine Zae ?_
   refine Zab ?_
   refine Zal rfl (fun _=>rfl) rfl rfl rfl ?_
   refine Zaf rfl ((c1).mono ?_)
   rintro _ rfl
   refine Zac rfl rfl ?_
   refine Zab ?_
   refine Zaa rfl ?_
   refine Zai rfl rfl rfl rfl (fun _=>rfl) rfl rfl rfl ?_
   refine Zao rfl rfl rfl rfl ((c2).mono ?_)
   rintro _ rfl
   refine Zac rfl rfl ?_
   refine Zap rfl ?_
   refine Zab ?_
   refine Zag rfl ?_
   refine Zag rfl ?_
   refine Zag rfl ?_
   refine Zaq rfl ?_
   refine Zab ?_
   refine Zag rfl ?_
   refine Zag rfl ?_
   refine Zag rfl ?_
   refine Zaq rfl ?_
   refine Zab ?_
   refine Zag rfl ?_
   refine Zag rfl ?_
   refine Zag rfl ?_
   refine Zag rfl ?_
   refine Zag rfl ?_
   refine Zaq rfl ?_
   refine Zab ?_
   refine Zag rfl ?_
   refine Zag rfl ?_
   refine Zag rfl ?_
   refine Zaq rfl ?_
   refine Zad ?_
   refine brT rfl ?_
   refine Zae ?_
   refine Zab ?_
   refine Zad ?_
   rfl
  |true=>
   cases i3 with
   |false=>
    refine Zae ?_
    refine Zab ?_
    refine Zal rfl (fun _=>rfl) rfl rfl rfl ?_
    refine Zaf rfl ((c1).mono ?_)
    rintro _ rfl
    refine Zac rfl rfl ?_
    refine Zab ?_
    refine Zaa rfl ?_
    refine Zai rfl rfl rfl rfl (fun _=>rfl) rfl rfl rfl ?_
    refine Zao rfl rfl rfl rfl ((c2).mono ?_)
    rintro _ rfl
    refine Zac rfl rfl ?_
    refine Zap rfl ?_
    refine Zab ?_
    refine Zaa rfl ?_
    refine Zai rfl rfl rfl rfl (fun _=>rfl) rfl rfl rfl ?_
    refine Zao rfl rfl rfl rfl ((c3).mono ?_)
    rintro _ rfl
    refine Zac rfl rfl ?_
    refine Zap rfl ?_
    refine Zab ?_
    refine Zag rfl ?_
    refine Zag rfl ?_
    refine Zag rfl ?_
    refine Zaq rfl ?_
    refine Zab ?_
    refine Zag rfl ?_
    refine Zag rfl ?_
    refine Zag rfl ?_
    refine Zag rfl ?_
    refine Zag rfl ?_
    refine Zaq rfl ?_
    refine Zab ?_
    refine Zag rfl ?_
    refine Zag rfl ?_
    refine Zag rfl ?_
    refine Zaq rfl ?_
    refine Zad ?_
    refine brT rfl ?_
    refine Zae ?_
    refine Zab ?_
    refine Zad ?_
    rfl
   |true=>
    cases i4 with
    |false=>
     refine Zae ?_
     refine Zab ?_
     refine Zal rfl (fun _=>rfl) rfl rfl rfl ?_
     refine Zaf rfl ((c1).mono ?_)
     rintro _ rfl
     refine Zac rfl rfl ?_
     refine Zab ?_
     refine Zaa rfl ?_
     refine Zai rfl rfl rfl rfl (fun _=>rfl) rfl rfl rfl ?_
     refine Zao rfl rfl rfl rfl ((c2).mono ?_)
     rintro _ rfl
     refine Zac rfl rfl ?_
     refine Zap rfl ?_
     refine Zab ?_
     refine Zaa rfl ?_
     refine Zai rfl rfl rfl rfl (fun _=>rfl) rfl rfl rfl ?_
     refine Zao rfl rfl rfl rfl ((c3).mono ?_)
     rintro _ rfl
     refine Zac rfl rfl ?_
     refine Zap rfl ?_
     refine Zab ?_
     refine Zaa rfl ?_
     refine Zai rfl rfl rfl rfl (fun _=>rfl) rfl rfl rfl ?_
     refine Zao rfl rfl rfl rfl ((c4).mono ?_)
     rintro _ rfl
     refine Zac rfl rfl ?_
     refine Zap rfl ?_
     refine Zab ?_
     refine Zag rfl ?_
     refine Zag rfl ?_
     refine Zag rfl ?_
     refine Zag rfl ?_
     refine Zag rfl ?_
     refine Zaq rfl ?_
     refine Zab ?_
     refine Zag rfl ?_
     refine Zag rfl ?_
     refine Zag rfl ?_
     refine Zaq rfl ?_
     refine Zad ?_
     refine brT rfl ?_
     refine Zae ?_
     refine Zab ?_
     refine Zad ?_
     rfl
    |true=>
     cases i5 with
     |false=>
      refine Zae ?_
      refine Zab ?_
      refine Zal rfl (fun _=>rfl) rfl rfl rfl ?_
      refine Zaf rfl ((c1).mono ?_)
      rintro _ rfl
      refine Zac rfl rfl ?_
      refine Zab ?_
      refine Zaa rfl ?_
      refine Zai rfl rfl rfl rfl (fun _=>rfl) rfl rfl rfl ?_
      refine Zao rfl rfl rfl rfl ((c2).mono ?_)
      rintro _ rfl
      refine Zac rfl rfl ?_
      refine Zap rfl ?_
      refine Zab ?_
      refine Zaa rfl ?_
      refine Zai rfl rfl rfl rfl (fun _=>rfl) rfl rfl rfl ?_
      refine Zao rfl rfl rfl rfl ((c3).mono ?_)
      rintro _ rfl
      refine Zac rfl rfl ?_
      refine Zap rfl ?_
      refine Zab ?_
      refine Zaa rfl ?_
      refine Zai rfl rfl rfl rfl (fun _=>rfl) rfl rfl rfl ?_
      refine Zao rfl rfl rfl rfl ((c4).mono ?_)
      rintro _ rfl
      refine Zac rfl rfl ?_
      refine Zap rfl ?_
      refine Zab ?_
      refine Zaa rfl ?_
      refine Zai rfl rfl rfl rfl (fun _=>rfl) rfl rfl rfl ?_
      refine Zaa rfl ?_
      refine Zai rfl rfl rfl rfl (fun _=>rfl) rfl rfl rfl ?_
      refine Zao rfl rfl rfl rfl ((c5).mono ?_)
      rintro _ rfl
      refine Zac rfl rfl ?_
      refine Zap rfl ?_
      refine Zab ?_
      refine Zag rfl ?_
      refine Zag rfl ?_
      refine Zag rfl ?_
      refine Zaq rfl ?_
      refine Zad ?_
      refine brT rfl ?_
      refine Zae ?_
      refine Zab ?_
      refine Zad ?_
      rfl
     |true=>
      cases i6 with
      |false=>
       refine Zae ?_
       refine Zab ?_
       refine Zal rfl (fun _=>rfl) rfl rfl rfl ?_
       refine Zaf rfl ((c1).mono ?_)
       rintro _ rfl
       refine Zac rfl rfl ?_
       refine Zab ?_
       refine Zaa rfl ?_
       refine Zai rfl rfl rfl rfl (fun _=>rfl) rfl rfl rfl ?_
       refine Zao rfl rfl rfl rfl ((c2).mono ?_)
       rintro _ rfl
       refine Zac rfl rfl ?_
       refine Zap rfl ?_
       refine Zab ?_
       refine Zaa rfl ?_
       refine Zai rfl rfl rfl rfl (fun _=>rfl) rfl rfl rfl ?_
       refine Zao rfl rfl rfl rfl ((c3).mono ?_)
       rintro _ rfl
       refine Zac rfl rfl ?_
       refine Zap rfl ?_
       refine Zab ?_
       refine Zaa rfl ?_
       refine Zai rfl rfl rfl rfl (fun _=>rfl) rfl rfl rfl ?_
       refine Zao rfl rfl rfl rfl ((c4).mono ?_)
       rintro _ rfl
       refine Zac rfl rfl ?_
       refine Zap rfl ?_
       refine Zab ?_
       refine Zaa rfl ?_
       refine Zai rfl rfl rfl rfl (fun _=>rfl) rfl rfl rfl ?_
       refine Zaa rfl ?_
       refine Zai rfl rfl rfl rfl (fun _=>rfl) rfl rfl rfl ?_
       refine Zao rfl rfl rfl rfl ((c5).mono ?_)
       rintro _ rfl
       refine Zac rfl rfl ?_
       refine Zap rfl ?_
       refine Zab ?_
       refine Zaa rfl ?_
       refine Zai rfl rfl rfl rfl (fun _=>rfl) rfl rfl rfl ?_
       refine Zao rfl rfl rfl rfl ((c6).mono ?_)
       rintro _ rfl
       refine Zac rfl rfl ?_
       refine Zap rfl ?_
       refine Zad ?_
       refine brT rfl ?_
       refine Zae ?_
       refine Zab ?_
       refine Zad ?_
       rfl
      |true=>
       refine Zae ?_
       refine Zab ?_
       refine Zal rfl (fun _=>rfl) rfl rfl rfl ?_
       refine Zaf rfl ((c1).mono ?_)
       rintro _ rfl
       refine Zac rfl rfl ?_
       refine Zab ?_
       refine Zaa rfl ?_
       refine Zai rfl rfl rfl rfl (fun _=>rfl) rfl rfl rfl ?_
       refine Zao rfl rfl rfl rfl ((c2).mono ?_)
       rintro _ rfl
       refine Zac rfl rfl ?_
       refine Zap rfl ?_
       refine Zab ?_
       refine Zaa rfl ?_
       refine Zai rfl rfl rfl rfl (fun _=>rfl) rfl rfl rfl ?_
       refine Zao rfl rfl rfl rfl ((c3).mono ?_)
       rintro _ rfl
       refine Zac rfl rfl ?_
       refine Zap rfl ?_
       refine Zab ?_
       refine Zaa rfl ?_
       refine Zai rfl rfl rfl rfl (fun _=>rfl) rfl rfl rfl ?_
       refine Zao rfl rfl rfl rfl ((c4).mono ?_)
       rintro _ rfl
       refine Zac rfl rfl ?_
       refine Zap rfl ?_
       refine Zab ?_
       refine Zaa rfl ?_
       refine Zai rfl rfl rfl rfl (fun _=>rfl) rfl rfl rfl ?_
       refine Zaa rfl ?_
       refine Zai rfl rfl rfl rfl (fun _=>rfl) rfl rfl rfl ?_
       refine Zao rfl rfl rfl rfl ((c5).mono ?_)
       rintro _ rfl
       refine Zac rfl rfl ?_
       refine Zap rfl ?_
       refine Zab ?_
       refine Zaa rfl ?_
       refine Zai rfl rfl rfl rfl (fun _=>rfl) rfl rfl rfl ?_
       refine Zao rfl rfl rfl rfl ((c6).mono ?_)
       rintro _ rfl
       refine Zac rfl rfl ?_
       refine Zap rfl ?_
       refine Zad ?_
       refine brF rfl ?_
       refine Zae ?_
       refine Zab ?_
       refine Zad ?_
       rfl
set_option maxHeartbeats 8000000 in
theorem ZiQ (b:Br):PureOK Tryz.prog ZaO 55 [brV b] (fun V=>V= .v (.i .i64) (bif ZhU b then(4:Int)else 0)):=by
 refine Zaz Zaw Tryz.func55 ?_
 have c1:=Zf6 b.2.2.2.1 1 10000
 have c2:=Zf6 b.2.2.2.2.1 500 1500
 have c3:=Zf6 b.2.2.2.2.2.1 (-1000) 1000
 have c4:=Zf6 b.2.2.2.2.2.2.1 0 100000
 have c5:=Zf6 b.2.2.2.2.2.2.2.1 b.2.2.2.2.2.2.1 100000
 have c6:=Zf6 b.2.2.2.2.2.2.2.2 0 200000
 have hb:ZhU b= !(inR b.2.2.2.1 1 10000&&inR b.2.2.2.2.1 500 1500&&inR b.2.2.2.2.2.1 (-1000) 1000&&inR b.2.2.2.2.2.2.1 0 100000&&inR b.2.2.2.2.2.2.2.1 b.2.2.2.2.2.2.1 100000&&inR b.2.2.2.2.2.2.2.2 0 200000):=rfl
 rw[hb]
 obtain⟨i1,h1⟩: ∃x,inR b.2.2.2.1 1 10000=x:=⟨_,rfl⟩
 rw[h1]at c1
 obtain⟨i2,h2⟩: ∃x,inR b.2.2.2.2.1 500 1500=x:=⟨_,rfl⟩
 rw[h2]at c2
 obtain⟨i3,h3⟩: ∃x,inR b.2.2.2.2.2.1 (-1000) 1000=x:=⟨_,rfl⟩
 rw[h3]at c3
 obtain⟨i4,h4⟩: ∃x,inR b.2.2.2.2.2.2.1 0 100000=x:=⟨_,rfl⟩
 rw[h4]at c4
 obtain⟨i5,h5⟩: ∃x,inR b.2.2.2.2.2.2.2.1 b.2.2.2.2.2.2.1 100000=x:=⟨_,rfl⟩
 rw[h5]at c5
 obtain⟨i6,h6⟩: ∃x,inR b.2.2.2.2.2.2.2.2 0 200000=x:=⟨_,rfl⟩
 rw[h6]at c6
 rw[h1,h2,h3,h4,h5,h6]
 refine Zae ?_
 refine Zbs ?_
 refine Zab ?_
 refine Zad ?_
 cases i1 with
 |false=>
  refine Zae ?_
  refine Zab ?_
  refine Zal rfl (fun _=>rfl) rfl rfl rfl ?_
  refine Zaf rfl ((c1).mono ?_)
  rintro _ rfl
  refine Zac rfl rfl ?_
  refine Zab ?_
  refine Zag rfl ?_
  refine Zag rfl ?_
  refine Zag rfl ?_
  refine Zap rfl ?_
  refine Zab ?_
  refine Zag rfl ?_
  refine Zag rfl ?_
  refine Zag rfl ?_
  refine Zap rfl ?_
  refine Zab ?_
  refine Zag rfl ?_
  refine Zag rfl ?_
  refine Zag rfl ?_
  refine Zap rfl ?_
  refine Zab ?_
  refine Zag rfl ?_
  refine Zag rfl ?_
  refine Zag rfl ?_
  refine Zag rfl ?_
  refine Zag rfl ?_
  refine Zap rfl ?_
  refine Zab ?_
  refine Zag rfl ?_
  refine Zag rfl ?_
  refine Zag rfl ?_
  refine Zap rfl ?_
  refine Zad ?_
  refine brF rfl ?_
  refine Zae ?_
  refine Zab ?_
  refine Zad ?_
  rfl
 |true=>
  cases i2 with
  |false=>
   refine Zae ?_
   refine Zab ?_
   refine Zal rfl (fun _=>rfl) rfl rfl rfl ?_
   refine Zaf rfl ((c1).mono ?_)
   rintro _ rfl
   refine Zac rfl rfl ?_
   refine Zab ?_
   refine Zaa rfl ?_
   refine Zai rfl rfl rfl rfl (fun _=>rfl) rfl rfl rfl ?_
   refine Zao rfl rfl rfl rfl ((c2).mono ?_)
   rintro _ rfl
   refine Zac rfl rfl ?_
   refine Zaq rfl ?_
   refine Zab ?_
   refine Zag rfl ?_
   refine Zag rfl ?_
   refine Zag rfl ?_
   refine Zap rfl ?_
   refine Zab ?_
   refine Zag rfl ?_
   refine Zag rfl ?_
   refine Zag rfl ?_
   refine Zap rfl ?_
   refine Zab ?_
   refine Zag rfl ?_
   refine Zag rfl ?_
   refine Zag rfl ?_
   refine Zag rfl ?_
   refine Zag rfl ?_
   refine Zap rfl ?_
   refine Zab ?_
   refine Zag rfl ?_
   refine Zag rfl ?_
   refine Zag rfl ?_
   refine Zap rfl ?_
   refine Zad ?_
   refine brF rfl ?_
   refine Zae ?_
   refine Zab ?_
   refine Zad ?_
   rfl
  |true=>
   cases i3 with
   |false=>
    refine Zae ?_
    refine Zab ?_
    refine Zal rfl (fun _=>rfl) rfl rfl rfl ?_
    refine Zaf rfl ((c1).mono ?_)
    rintro _ rfl
    refine Zac rfl rfl ?_
    refine Zab ?_
    refine Zaa rfl ?_
    refine Zai rfl rfl rfl rfl (fun _=>rfl) rfl rfl rfl ?_
    refine Zao rfl rfl rfl rfl ((c2).mono ?_)
    rintro _ rfl
    refine Zac rfl rfl ?_
    refine Zaq rfl ?_
    refine Zab ?_
    refine Zaa rfl ?_
    refine Zai rfl rfl rfl rfl (fun _=>rfl) rfl rfl rfl ?_
    refine Zao rfl rfl rfl rfl ((c3).mono ?_)
    rintro _ rfl
    refine Zac rfl rfl ?_
    refine Zaq rfl ?_
    refine Zab ?_
    refine Zag rfl ?_
    refine Zag rfl ?_
    refine Zag rfl ?_
    refine Zap rfl ?_
    refine Zab ?_
    refine Zag rfl ?_
    refine Zag rfl ?_
    refine Zag rfl ?_
    refine Zag rfl ?_
    refine Zag rfl ?_
    refine Zap rfl ?_
    refine Zab ?_
    refine Zag rfl ?_
    refine Zag rfl ?_
    refine Zag rfl ?_
    refine Zap rfl ?_
    refine Zad ?_
    refine brF rfl ?_
    refine Zae ?_
    refine Zab ?_
    refine Zad ?_
    rfl
   |true=>
    cases i4 with
    |false=>
     refine Zae ?_
     refine Zab ?_
     refine Zal rfl (fun _=>rfl) rfl rfl rfl ?_
     refine Zaf rfl ((c1).mono ?_)
     rintro _ rfl
     refine Zac rfl rfl ?_
     refine Zab ?_
     refine Zaa rfl ?_
     refine Zai rfl rfl rfl rfl (fun _=>rfl) rfl rfl rfl ?_
     refine Zao rfl rfl rfl rfl ((c2).mono ?_)
     rintro _ rfl
     refine Zac rfl rfl ?_
     refine Zaq rfl ?_
     refine Zab ?_
     refine Zaa rfl ?_
     refine Zai rfl rfl rfl rfl (fun _=>rfl) rfl rfl rfl ?_
     refine Zao rfl rfl rfl rfl ((c3).mono ?_)
     rintro _ rfl
     refine Zac rfl rfl ?_
     refine Zaq rfl ?_
     refine Zab ?_
     refine Zaa rfl ?_
     refine Zai rfl rfl rfl rfl (fun _=>rfl) rfl rfl rfl ?_
     refine Zao rfl rfl rfl rfl ((c4).mono ?_)
     rintro _ rfl
     refine Zac rfl rfl ?_
     refine Zaq rfl ?_
     refine Zab ?_
     refine Zag rfl ?_
     refine Zag rfl ?_
     refine Zag rfl ?_
     refine Zag rfl ?_
     refine Zag rfl ?_
     refine Zap rfl ?_
     refine Zab ?_
     refine Zag rfl ?_
     refine Zag rfl ?_
     refine Zag rfl ?_
     refine Zap rfl ?_
     refine Zad ?_
     refine brF rfl ?_
     refine Zae ?_
     refine Zab ?_
     refine Zad ?_
     rfl
    |true=>
     cases i5 with
     |false=>
      refine Zae ?_
      refine Zab ?_
      refine Zal rfl (fun _=>rfl) rfl rfl rfl ?_
      refine Zaf rfl ((c1).mono ?_)
      rintro _ rfl
      refine Zac rfl rfl ?_
      refine Zab ?_
      refine Zaa rfl ?_
      refine Zai rfl rfl rfl rfl (fun _=>rfl) rfl rfl rfl ?_
      refine Zao rfl rfl rfl rfl ((c2).mono ?_)
      rintro _ rfl
      refine Zac rfl rfl ?_
      refine Zaq rfl ?_
      refine Zab ?_
      refine Zaa rfl ?_
      refine Zai rfl rfl rfl rfl (fun _=>rfl) rfl rfl rfl ?_
      refine Zao rfl rfl rfl rfl ((c3).mono ?_)
      rintro _ rfl
      refine Zac rfl rfl ?_
      refine Zaq rfl ?_
      refine Zab ?_
      refine Zaa rfl ?_
      refine Zai rfl rfl rfl rfl (fun _=>rfl) rfl rfl rfl ?_
      refine Zao rfl rfl rfl rfl ((c4).mono ?_)
      rintro _ rfl
      refine Zac rfl rfl ?_
      refine Zaq rfl ?_
      refine Zab ?_
      refine Zaa rfl ?_
      refine Zai rfl rfl rfl rfl (fun _=>rfl) rfl rfl rfl ?_
      refine Zaa rfl ?_
      refine Zai rfl rfl rfl rfl (fun _=>rfl) rfl rfl rfl ?_
      refine Zao rfl rfl rfl rfl ((c5).mono ?_)
      rintro _ rfl
      refine Zac rfl rfl ?_
      refine Zaq rfl ?_
      refine Zab ?_
      refine Zag rfl ?_
      refine Zag rfl ?_
      refine Zag rfl ?_
      refine Zap rfl ?_
      refine Zad ?_
      refine brF rfl ?_
      refine Zae ?_
      refine Zab ?_
      refine Zad ?_
      rfl
     |true=>
      cases i6 with
      |false=>
       refine Zae ?_
       refine Zab ?_
       refine Zal rfl (fun _=>rfl) rfl rfl rfl ?_
       refine Zaf rfl ((c1).mono ?_)
       rintro _ rfl
       refine Zac rfl rfl ?_
       refine Zab ?_
       refine Zaa rfl ?_
       refine Zai rfl rfl rfl rfl (fun _=>rfl) rfl rfl rfl ?_
       refine Zao rfl rfl rfl rfl ((c2).mono ?_)
       rintro _ rfl
       refine Zac rfl rfl ?_
       refine Zaq rfl ?_
       refine Zab ?_
       refine Zaa rfl ?_
       refine Zai rfl rfl rfl rfl (fun _=>rfl) rfl rfl rfl ?_
       refine Zao rfl rfl rfl rfl ((c3).mono ?_)
       rintro _ rfl
       refine Zac rfl rfl ?_
       refine Zaq rfl ?_
       refine Zab ?_
       refine Zaa rfl ?_
       refine Zai rfl rfl rfl rfl (fun _=>rfl) rfl rfl rfl ?_
       refine Zao rfl rfl rfl rfl ((c4).mono ?_)
       rintro _ rfl
       refine Zac rfl rfl ?_
       refine Zaq rfl ?_
       refine Zab ?_
       refine Zaa rfl ?_
       refine Zai rfl rfl rfl rfl (fun _=>rfl) rfl rfl rfl ?_
       refine Zaa rfl ?_
       refine Zai rfl rfl rfl rfl (fun _=>rfl) rfl rfl rfl ?_
       refine Zao rfl rfl rfl rfl ((c5).mono ?_)
       rintro _ rfl
       refine Zac rfl rfl ?_
       refine Zaq rfl ?_
       refine Zab ?_
       refine Zaa rfl ?_
       refine Zai rfl rfl rfl rfl (fun _=>rfl) rfl rfl rfl ?_
       refine Zao rfl rfl rfl rfl ((c6).mono ?_)
       rintro _ rfl
       refine Zac rfl rfl ?_
       refine Zaq rfl ?_
       refine Zad ?_
       refine brF rfl ?_
       refine Zae ?_
       refine Zab ?_
       refine Zad ?_
       rfl
      |true=>
       refine Zae ?_
       refine Zab ?_
       refine Zal rfl (fun _=>rfl) rfl rfl rfl ?_
       refine Zaf rfl ((c1).mono ?_)
       rintro _ rfl
       refine Zac rfl rfl ?_
       refine Zab ?_
       refine Zaa rfl ?_
       refine Zai rfl rfl rfl rfl (fun _=>rfl) rfl rfl rfl ?_
       refine Zao rfl rfl rfl rfl ((c2).mono ?_)
       rintro _ rfl
       refine Zac rfl rfl ?_
       refine Zaq rfl ?_
       refine Zab ?_
       refine Zaa rfl ?_
       refine Zai rfl rfl rfl rfl (fun _=>rfl) rfl rfl rfl ?_
       refine Zao rfl rfl rfl rfl ((c3).mono ?_)
       rintro _ rfl
       refine Zac rfl rfl ?_
       refine Zaq rfl ?_
       refine Zab ?_
       refine Zaa rfl ?_
       refine Zai rfl rfl rfl rfl (fun _=>rfl) rfl rfl rfl ?_
       refine Zao rfl rfl rfl rfl ((c4).mono ?_)
       rintro _ rfl
       refine Zac rfl rfl ?_
       refine Zaq rfl ?_
       refine Zab ?_
       refine Zaa rfl ?_
       refine Zai rfl rfl rfl rfl (fun _=>rfl) rfl rfl rfl ?_
       refine Zaa rfl ?_
       refine Zai rfl rfl rfl rfl (fun _=>rfl) rfl rfl rfl ?_
       refine Zao rfl rfl rfl rfl ((c5).mono ?_)
       rintro _ rfl
       refine Zac rfl rfl ?_
       refine Zaq rfl ?_
       refine Zab ?_
       refine Zaa rfl ?_
       refine Zai rfl rfl rfl rfl (fun _=>rfl) rfl rfl rfl ?_
       refine Zao rfl rfl rfl rfl ((c6).mono ?_)
       rintro _ rfl
       refine Zac rfl rfl ?_
       refine Zaq rfl ?_
       refine Zad ?_
       refine brT rfl ?_
       refine Zae ?_
       refine Zab ?_
       refine Zad ?_
       rfl
end Go.Proofs.YtgmjnhiakpcpbaaGreatDoor
