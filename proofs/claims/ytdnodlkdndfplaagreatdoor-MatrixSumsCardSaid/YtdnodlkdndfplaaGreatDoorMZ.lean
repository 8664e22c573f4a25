/-
 matrix.Add, matrix.Scale.
-/
import Derived.Test.YtdnodlkdndfplaaGreatDoorMY
set_option linter.constructorNameAsVariable false
set_option linter.unusedSimpArgs false
set_option linter.unusedVariables false
namespace Go.Proofs.YtdnodlkdndfplaaGreatDoor
open Go.Am Go.Tx Dv Go.Lib
set_option maxRecDepth 100000
noncomputable def ZsL (a b:List (List (List UInt8))):Int:=match decide (ZfR (ZcG a) (ZcG b)=0)with
 |false=>ZfR (ZcG a) (ZcG b)
 |true=>match !decide ((a.length:Int)=(b.length:Int))with
  |true=>3
  |false=>match !decide (((wid a:Nat):Int)=((wid b:Nat):Int))with
   |true=>3
   |false=>0
def ZwW (a b:List (List (List UInt8))) (V:SV):Prop:=(decide (ZsL a b=0)=false∧V= .tup [.nils, .v (.i .i64) (ZsL a b)])∨
 (ZsL a b=0∧ ∃pss qss,Mat a pss∧Mat b qss∧SameD qss pss∧V=ZmA (Zeb (· + ·) pss qss))
theorem Zje {a b:List (List (List UInt8))} {e:Int} (h:ZsL a b=e) (hd:decide (e=0)=false):ZwW a b (.tup [.nils, .v (.i .i64) e]):=by
 subst h
 exact .inl ⟨hd,rfl⟩
theorem ZsV (hp:List SM) (p q:Rat) (K:SV→List SM→Prop) (h1:Zeu p=true) (h2:Zeu q=true) (hk:K (QR (p+q)) hp):Zb2 Tryz.prog Zat 47 ([]++ [QR p,QR q]++ []) hp K:=
 (ZvG p q (k:=208) (by decide) (Znm h1) (Znm h2)).mono (by rintro _ rfl;exact hk)
theorem Zrq {a b:List (List (List UInt8))} {pss qss:List (List Rat)} (hM:Mat a pss) (hN:Mat b qss) (h1:a.length=b.length) (h2:wid a=wid b):SameD qss pss:=by
 obtain⟨rfl,_,_,r1,_⟩:=hM
 obtain⟨rfl,_,_,r2,_⟩:=hN
 rw[ZmP,ZmP]at h2
 rw[ZeH,ZeH,List.length_map,List.length_map]at h1
 exact⟨h1.symm,fun r g1 g2=>by rw[r1 _ (List.getElem_mem g2),r2 _ (List.getElem_mem g1),h2]⟩
set_option maxHeartbeats 8000000 in
theorem Zv1 (a b:List (List (List UInt8))) (ha: ∀r∈a,∀s∈r,s.length≤9223372036854775806) (hb: ∀r∈b,∀s∈r,s.length≤9223372036854775806):PureOK Tryz.prog Zat 10 [.v (.l (.l .s)) a, .v (.l (.l .s)) b] (ZwW a b):=by
 refine Zak Zal Tryz.func10 ?_
 have hE:ZsL a b=match decide (ZfR (ZcG a) (ZcG b)=0)with|false=>ZfR (ZcG a) (ZcG b)|true=>match !decide ((a.length:Int)=(b.length:Int))with|true=>3|false=>match !decide (((wid a:Nat):Int)=((wid b:Nat):Int))with|true=>3|false=>0:=rfl
 have c3:=ZkL (ZcG a) (ZcG b)
 have hz:ZfR (ZcG a) (ZcG b)=0→ZcG a=0∧ZcG b=0:=Zlz
 obtain⟨E,eE⟩: ∃x,ZfR (ZcG a) (ZcG b)=x:=⟨_,rfl⟩
 rw[eE]at c3 hE hz
 refine(Zjj a ha).mono ?_
 rintro _ rfl
 refine(Zjj b hb).mono ?_
 rintro _ rfl
 refine And.intro (show 0+2≤2 by decide) ?_
 refine c3.mono ?_
 rintro _ rfl
 refine And.intro (fun h=> ?_) (fun h=> ?_)
 ·have h':(!decide (E=0))=true:=h
  have hd:decide (E=0)=false:=by cases hd:decide (E=0)<;>simp[hd]at h'⊢
  rw[hd]at hE
  exact Zje hE hd
 have h':(!decide (E=0))=false:=h
 have h0:E=0:=by simpa using h'
 obtain⟨z1,z2⟩:=hz h0
 rw[decide_eq_true h0]at hE
 simp only at hE
 obtain⟨pss,hM⟩:=Zh6 z1
 obtain⟨qss,hN⟩:=Zh6 z2
 have w1:=ZpM a
 have w2:=ZpM b
 cases h1:(!decide ((a.length:Int)=(b.length:Int)))with
 |true=>
  rw[h1]at hE
  repeat (first|refine Zaj ?_|refine Zaf ?_|refine Zac ?_)
  first|refine Zab (Zaa (id:=4) rfl ?_)|refine Zab (Zab (Zaa (id:=4) rfl ?_))|refine Zaa (id:=4) rfl ?_|refine Zab (Zad rfl (Zab (Zaa (id:=4) rfl ?_)))|refine Zad rfl (Zab (Zaa (id:=4) rfl ?_))
  refine Zah rfl (fun _=>rfl) rfl rfl ?_
  refine Zah rfl (fun _=>rfl) rfl rfl ?_
  refine Zah rfl (fun _=>rfl) rfl rfl ?_
  refine Zah rfl (fun _=>rfl) rfl rfl ?_
  refine Zah rfl (fun _=>rfl) rfl rfl ?_
  refine Zah rfl (fun _=>rfl) rfl rfl ?_
  refine Zag rfl rfl rfl h1 rfl rfl ?_
  refine Zag rfl rfl rfl h1 rfl rfl ?_
  refine Zag rfl rfl rfl h1 rfl rfl ?_
  refine Zag rfl rfl rfl h1 rfl rfl ?_
  refine Zag rfl rfl rfl h1 rfl rfl ?_
  refine ZaG rfl rfl rfl h1 rfl rfl rfl ?_
  refine Zam ?_
  repeat (first|refine Zaf ?_|refine Zac ?_)
  exact And.intro (fun _=>Zje hE rfl) (fun h=>by first|(cases h;done)|exact(nf h1 h).elim)
 |false=>
  rw[h1]at hE
  simp only at hE
  cases h2:(!decide (((wid a:Nat):Int)=((wid b:Nat):Int)))with
  |true=>
   rw[h2]at hE
   repeat (first|refine Zaj ?_|refine Zaf ?_|refine Zac ?_)
   first|refine Zab (Zaa (id:=4) rfl ?_)|refine Zab (Zab (Zaa (id:=4) rfl ?_))|refine Zaa (id:=4) rfl ?_|refine Zab (Zad rfl (Zab (Zaa (id:=4) rfl ?_)))|refine Zad rfl (Zab (Zaa (id:=4) rfl ?_))
   refine Zah rfl (fun _=>rfl) rfl rfl ?_
   refine Zah rfl (fun _=>rfl) rfl rfl ?_
   refine Zah rfl (fun _=>rfl) rfl rfl ?_
   refine Zah rfl (fun _=>rfl) rfl rfl ?_
   refine Zah rfl (fun _=>rfl) rfl rfl ?_
   refine Zah rfl (fun _=>rfl) rfl rfl ?_
   refine Zae rfl rfl rfl h1 (fun _=>rfl) rfl rfl ?_
   refine Za9 rfl rfl rfl h1 ((w1).mono ?_)
   rintro _ rfl
   refine ZaE rfl rfl ?_
   refine Zae rfl rfl rfl h1 (fun _=>rfl) rfl rfl ?_
   refine Za9 rfl rfl rfl h1 ((w2).mono ?_)
   rintro _ rfl
   refine ZaE rfl rfl ?_
   refine Zae rfl rfl rfl h1 (fun _=>rfl) rfl rfl ?_
   refine Zax rfl rfl rfl h1 rfl rfl rfl ?_
   refine Zam ?_
   repeat (first|refine Zaf ?_|refine Zac ?_)
   exact And.intro (fun _=>Zje hE rfl) (fun h=>by first|(cases h;done)|exact(nf h2 h).elim)
  |false=>
   rw[h2]at hE
   have e1:a.length=b.length:=by have:(a.length:Int)=(b.length:Int):=by simpa using h1
                                 omega
   have e2:wid a=wid b:=by have:((wid a:Nat):Int)=((wid b:Nat):Int):=by simpa using h2
                           omega
   have hS:=Zrq hM hN e1 e2
   have hfin: ∀V,V=ZmA (Zeb (· + ·) pss qss)→ZwW a b V:=fun V hV=> .inr ⟨hE,pss,qss,hM,hN,hS,hV⟩
   obtain⟨ptx,pf,pl,pr,pw⟩:=hM
   obtain⟨qtx,qf,ql,qr,qw⟩:=hN
   have hC:=Zt3 47 [] (· + ·) pss qss pl (fun ps h=>by have:=pr ps h;omega) (fun ps h=>by have:=qr ps h;omega) hS pf qf rfl ZsV
   rw[←ptx,←qtx]at hC
   unfold ZmA at hC hfin
   repeat (first|refine Zaj ?_|refine Zaf ?_|refine Zac ?_)
   first|refine Zab (Zaa (id:=4) rfl ?_)|refine Zab (Zab (Zaa (id:=4) rfl ?_))|refine Zaa (id:=4) rfl ?_|refine Zab (Zad rfl (Zab (Zaa (id:=4) rfl ?_)))|refine Zad rfl (Zab (Zaa (id:=4) rfl ?_))
   refine Zah rfl (fun _=>rfl) rfl rfl ?_
   refine Zah rfl (fun _=>rfl) rfl rfl ?_
   refine Zah rfl (fun _=>rfl) rfl rfl ?_
   refine Zah rfl (fun _=>rfl) rfl rfl ?_
   refine Zah rfl (fun _=>rfl) rfl rfl ?_
   refine Zah rfl (fun _=>rfl) rfl rfl ?_
   refine Zae rfl rfl rfl h1 (fun _=>rfl) rfl rfl ?_
   refine Za9 rfl rfl rfl h1 ((w1).mono ?_)
   rintro _ rfl
   refine ZaE rfl rfl ?_
   refine Zae rfl rfl rfl h1 (fun _=>rfl) rfl rfl ?_
   refine Za9 rfl rfl rfl h1 ((w2).mono ?_)
   rintro _ rfl
   refine ZaE rfl rfl ?_
   refine Zae rfl rfl rfl h1 (fun _=>rfl) rfl rfl ?_
   refine Zax rfl rfl rfl h1 rfl rfl rfl ?_
   refine Zam ?_
   repeat (first|refine Zaf ?_|refine Zac ?_)
   refine And.intro (fun h=>by first|(cases h;done)|exact(nf h h2).elim) (fun _=> ?_)
   refine hC.mono ?_
   intro V hV
   cases hf:ZnL (Zeb (· + ·) pss qss)with
   |true=>
    rw[hf]at hV hfin
    subst hV
    exact hfin _ rfl
   |false=>
    rw[hf]at hV hfin
    subst hV
    exact hfin _ rfl
theorem Zxl (p q r:Rat) (hp:Zeu p=true) (hr:Zeu r=true):PureOK Tryz.prog Zat 50 [QR p,QR q, .box qct (ZcB r) 0] (fun V=>V=QR (p*r)):=by
 refine Zak Zal Tryz.func50 ?_
 refine And.intro rfl ?_
 refine(Zv7 p r (k:=208) (by decide) (Znm hp) (Znm hr)).mono ?_
 rintro _ rfl
 refine And.intro rfl ?_
 exact⟨rfl,rfl⟩
theorem ZtF (r:Rat) (hr:Zeu r=true) (hp:List SM) (p q:Rat) (K:SV→List SM→Prop) (h1:Zeu p=true) (_:Zeu q=true) (hk:K (QR (p*r)) hp):Zb2 Tryz.prog Zat 50 ([]++ [QR p,QR q]++ [.box qct (ZcB r) 0]) hp K:=
 (Zxl p q r h1 hr).mono (by rintro _ rfl;exact hk)
def ZnR (a:List (List (List UInt8))) (r:List UInt8) (V:SV):Prop:=(decide (ZfR (ZcG a) (ZaP r)=0)=false∧V= .tup [.nils, .v (.i .i64) (ZfR (ZcG a) (ZaP r))])∨
 (ZfR (ZcG a) (ZaP r)=0∧ ∃pss q,Mat a pss∧r=Zbi q∧Zeu q=true∧V=ZmA (Zeb (fun x _=>x*q) pss pss))
theorem SameD.refl {α:Type} (X:List (List α)):SameD X X:=⟨rfl,fun _ _ _=>rfl⟩
set_option maxHeartbeats 8000000 in
theorem Ztc (a:List (List (List UInt8))) (r:List UInt8) (ha: ∀r∈a,∀s∈r,s.length≤9223372036854775806) (hr:r.length≤9223372036854775806):PureOK Tryz.prog Zat 11 [.v (.l (.l .s)) a, .v .s r] (ZnR a r):=by
 refine Zit (fn:=Tryz.f11) (code:=ZbP Tryz.f11) Zal (by kernel_rfl) rfl Tryz.func11 (by kernel_rfl) (Nat.le_of_ble_eq_true (by kernel_rfl)) ?_
 have c3:=ZkL (ZcG a) (ZaP r)
 have hz:ZfR (ZcG a) (ZaP r)=0→ZcG a=0∧ZaP r=0:=Zlz
 have hfin: ∀V,((decide (ZfR (ZcG a) (ZaP r)=0)=false∧V= .tup [.nils, .v (.i .i64) (ZfR (ZcG a) (ZaP r))])∨(ZfR (ZcG a) (ZaP r)=0∧ ∃pss q,Mat a pss∧r=Zbi q∧Zeu q=true∧V=ZmA (Zeb (fun x _=>x*q) pss pss)))→ZnR a r V:=fun V h=>h
 obtain⟨E,eE⟩: ∃x,ZfR (ZcG a) (ZaP r)=x:=⟨_,rfl⟩
 rw[eE]at c3 hz hfin
 refine Za8 (Zbo Zal ?_)
 refine Za8 (Zbo Zal ?_)
 refine(Zjj a ha).mono ?_
 rintro _ rfl
 refine(ZnP r hr).mono ?_
 rintro _ rfl
 refine And.intro (show 0+2≤2 by decide) ?_
 refine c3.mono ?_
 rintro _ rfl
 refine And.intro (fun h=> ?_) (fun h=> ?_)
 ·have h':(!decide (E=0))=true:=h
  have hd:decide (E=0)=false:=by cases hd:decide (E=0)<;>simp[hd]at h'⊢
  exact hfin _ (.inl ⟨hd,rfl⟩)
 have h':(!decide (E=0))=false:=h
 have h0:E=0:=by simpa using h'
 obtain⟨z1,z2⟩:=hz h0
 obtain⟨pss,hM⟩:=Zh6 z1
 obtain⟨q,rfl,hq⟩:=ZhB z2
 have hM2:=hM
 obtain⟨ptx,pf,pl,pr,pw⟩:=hM
 have hC:=Zt3 50 [.box qct (ZcB q) 0] (fun x _=>x*q) pss pss pl (fun ps h=>by have:=pr ps h;omega) (fun ps h=>by have:=pr ps h;omega) (SameD.refl pss) pf pf rfl (ZtF q hq)
 rw[←ptx]at hC
 have hfin2: ∀V,V=ZmA (Zeb (fun x _=>x*q) pss pss)→ZnR a (Zbi q) V:=fun V hV=>hfin V (.inr ⟨h0,pss,q,hM2,rfl,hq,hV⟩)
 unfold ZmA at hC hfin2
 refine CodeOK.ent (tm':=[(0, .v (.l (.l .s)) a),(1, .v .s (Zbi q))]) (hp':=[]) ?_ (Za6 ⟨rfl,rfl,rfl,rfl,trivial⟩)
 refine Za8 (Zbo Zal ?_)
 refine(Zrn q hq).mono ?_
 rintro _ rfl
 refine And.intro rfl ?_
 refine CodeOK.ent ?_ (ZsZ (hp1:=[]) (hp2:=[]) (ct:=qct) (x:=ZcB q) rfl rfl)
 refine Za8 (Zbo Zal ?_)
 refine Exists.intro (ZcB q) (And.intro rfl ?_)
 refine hC.mono ?_
 intro V hV
 cases hf:ZnL (Zeb (fun x _=>x*q) pss pss)with
 |true=>
  rw[hf]at hV hfin2
  subst hV
  refine Zbo Zal ?_
  exact hfin2 _ rfl
 |false=>
  rw[hf]at hV hfin2
  subst hV
  refine Zbo Zal ?_
  exact hfin2 _ rfl
end Go.Proofs.YtdnodlkdndfplaaGreatDoor
/-
 slices.Repeat of one text.
-/
namespace Go.Proofs.YtdnodlkdndfplaaGreatDoor
open Go.Am Go.Tx Dv Go.Lib
set_option maxRecDepth 100000
theorem Zuj (n:Nat) (hn:n<41):PureOK Tryz.prog Zat 152 [.v (.i .u64) (1:Int), .v (.i .u64) (n:Int)] (fun V=>V= .tup [.v (.i .u64) (0:Int), .v (.i .u64) (n:Int)]):=by
 refine Zak Zal Tryz.func152 ?_
 refine And.intro (show(0:Int)≤32 by decide) ?_
 refine And.intro (show(0:Int)≤32 by decide) ?_
 refine And.intro (show(0:Int)≤32 by decide) ?_
 refine And.intro (show(0:Int)≤32 by decide) ?_
 refine And.intro (show(0:Int)≤32 by decide) ?_
 refine congrArg (fun x:Int×Int=>SV.tup [.v (.i .u64) x.1, .v (.i .u64) x.2]) (?_:(_,_)=((0:Int),(n:Int)))
 revert n
 decide+kernel
theorem ZvK (n:Nat) (hn:n<41):PureOK Tryz.prog Zat 111 [.v (.i .u64) (1:Int), .v (.i .u64) (n:Int)] (fun V=>V= .tup [.v (.i .u64) (0:Int), .v (.i .u64) (n:Int)]):=by
 refine Zak Zal Tryz.func111 ?_
 refine And.intro (fun h=>nomatch h) (fun _=> ?_)
 refine(Zuj n hn).mono ?_
 rintro _ rfl
 rfl
set_option maxHeartbeats 4000000 in
theorem ZsX (x:List UInt8) (n:Nat) (hn:n<41):ImpOK Tryz.prog Zat 52 [.v (.l .s) [x], .v (.i .i64) (n:Int)] (fun V hp sf=>V= .ref 0 0 n none∧hp=[.row .s (List.replicate n x) true]∧sf=true):=by
 refine Zjs (fn:=Tryz.f52) (code:=ZbP Tryz.f52) Zal (by kernel_rfl) Tryz.func52 (by kernel_rfl) (Nat.le_of_ble_eq_true (by kernel_rfl)) ?_
 have u1:IntKind.u64.wrap (n:Int)=(n:Int):=by revert n;decide+kernel
 have u2:IntKind.i64.wrap (n:Int)=(n:Int):=by revert n;decide+kernel
 have hM:PureOK Tryz.prog Zat 111 [.v (.i .u64) (1:Int), .v (.i .u64) (IntKind.u64.wrap (n:Int))] (fun V=>V= .tup [.v (.i .u64) (0:Int), .v (.i .u64) (n:Int)]):=by rw[u1];exact ZvK n hn
 have hb:decide ((9223372036854775807:Int)<(n:Int))=false:=decide_eq_false (by omega)
 refine And.intro (fun h=> ?_) (fun _=> ?_)
 ·have h':decide ((n:Int)<0)=true:=h
  have:=of_decide_eq_true h'
  omega
 refine hM.mono ?_
 rintro _ rfl
 repeat (first|refine Zaj ?_|refine Zaf ?_|refine Zac ?_)
 first|refine Zab (Zaa (id:=4) rfl ?_)|refine Zab (Zab (Zaa (id:=4) rfl ?_))|refine Zaa (id:=4) rfl ?_|refine Zab (Zad rfl (Zab (Zaa (id:=4) rfl ?_)))|refine Zad rfl (Zab (Zaa (id:=4) rfl ?_))
 refine Zah rfl (fun _=>rfl) rfl rfl ?_
 refine Zah rfl (fun _=>rfl) rfl rfl ?_
 refine Zah rfl (fun _=>rfl) rfl rfl ?_
 refine Zae rfl rfl rfl rfl (fun _=>rfl) rfl rfl ?_
 refine Zae rfl rfl rfl rfl (fun _=>rfl) rfl rfl ?_
 refine Zax rfl rfl rfl rfl rfl rfl rfl ?_
 refine Zam ?_
 repeat (first|refine Zaf ?_|refine Zac ?_)
 refine And.intro (fun h=>by first|(cases h;done)|exact(nf h hb).elim) (fun _=> ?_)
 have cz:0≤IntKind.i64.wrap (n:Int)∧IntKind.i64.wrap (n:Int)≤IntKind.i64.wrap (n:Int)∧(16:Int)*IntKind.i64.wrap (n:Int)≤281474976710656∧IntKind.i64.wrap (n:Int)<9223372036854775808:=by rw[u2];omega
 have e1:(IntKind.i64.wrap (n:Int)).toNat=n:=by rw[u2,Int.toNat_natCast]
 refine And.intro cz ?_
 refine And.intro (show 0+(IntKind.i64.wrap (n:Int)).toNat≤(List.replicate (IntKind.i64.wrap (n:Int)).toNat ([]:List UInt8)).length by simp) ?_
 refine Zaw Zal rfl (fun(t:Nat×List (List UInt8))=> [(7, .ref 0 0 n none),(8, .v (.i .i64) (t.1:Int))]) (fun t=> [.row .s t.2 true])
  (fun t=>t.2.length=n∧t.1≤n∧t.2.take t.1=List.replicate t.1 x∧(t.1=0→n=0)) (fun t=>n-t.1) ?_ (min 1 n,spl (List.replicate n []) 0 ([x].take n)) ?_ ?_
 ·rintro⟨c,out⟩ ⟨hl,hc,ht,h0⟩
  simp only at hl hc ht h0
  refine And.intro (fun h=> ?_) (fun h=> ?_)
  ·have hlt:c<n:=by have h':(c:Int)<(n:Int):=of_decide_eq_true h;omega
   have hs:(sub out (0+0) ((c:Int).toNat-0)).length=c:=by rw[sub,List.length_take,List.length_drop];omega
   have hsv:sub out (0+0) ((c:Int).toNat-0)=List.replicate c x:=by rw[←ht];rfl
   refine And.intro (show(0:Int)≤(c:Int)∧(c:Int)≤((n:Nat):Int)by omega) ?_
   refine And.intro (show(0:Int)≤(c:Int)∧(c:Int)≤((n:Nat):Int)by omega) ?_
   refine And.intro (show 0+0+((c:Int).toNat-0)≤out.length by omega) ?_
   refine And.intro (show 0+(c:Int).toNat+(n-(c:Int).toNat)≤out.length by omega) ?_
   have w:IntKind.i64.wrap ((c:Int)+((min (sub out (0+0) ((c:Int).toNat-0)).length (n-(c:Int).toNat):Nat):Int))=((c+min c (n-c):Nat):Int):=by
    rw[hs,Int.toNat_natCast,Zan (by omega) (by omega)]
    omega
   refine⟨(c+min c (n-c),spl out (0+(c:Int).toNat) ((sub out (0+0) ((c:Int).toNat-0)).take (n-(c:Int).toNat))), ?_,by show n-(c+min c (n-c))<n-c;omega, ?_⟩
   ·rw[hsv,Int.toNat_natCast,Nat.zero_add,List.take_replicate]
    have hm:min (n-c) c=min c (n-c):=Nat.min_comm _ _
    refine⟨?_,by show c+min c (n-c)≤n;omega, ?_,fun h=>by have h:c+min c (n-c)=0:=h;omega⟩
    ·show(spl out c (List.replicate (min (n-c) c) x)).length=n
     rw[spl,List.length_append,List.length_append,List.length_take,List.length_drop,List.length_replicate]
     omega
    ·show(spl out c (List.replicate (min (n-c) c) x)).take (c+min c (n-c))=List.replicate (c+min c (n-c)) x
     rw[spl,ht,←List.append_assoc,List.replicate_append_replicate,hm,List.take_append_of_le_length (by rw[List.length_replicate];omega),List.take_replicate,Nat.min_self]
   ·refine Zap rfl rfl ?_ ?_
    ·exact⟨⟨rfl,rfl,rfl⟩,w.symm,trivial⟩
    ·exact⟨⟨rfl,fun _=>rfl⟩,trivial⟩
  ·have hcn:c=n:=by have h': ¬ (c:Int)<(n:Int):=of_decide_eq_false h;omega
   have ho:out=List.replicate n x:=by rw[hcn,List.take_of_length_le (by omega)]at ht;exact ht
   refine⟨.ref 0 0 n none,[.row .s (List.replicate n x) true], ?_,rfl,rfl,rfl,rfl⟩
   refine Zap rfl rfl ?_ ?_
   ·exact⟨⟨rfl,rfl,rfl⟩,trivial⟩
   ·exact⟨⟨ho.symm,fun _=>rfl⟩,trivial⟩
 ·cases n with
  |zero=>exact⟨rfl,Nat.le_refl 0,rfl,fun _=>rfl⟩
  |succ n=>
   have ht1:[x].take (n+1)=[x]:=List.take_of_length_le (by simp)
   rw[ht1]
   refine⟨?_,show min 1 (n+1)≤n+1 by omega, ?_,fun h=>by have h:min 1 (n+1)=0:=h;omega⟩
   ·show(spl (List.replicate (n+1) []) 0 [x]).length=n+1
    rw[spl,List.length_append,List.length_append,List.length_take,List.length_drop,List.length_replicate]
    simp
    omega
   ·show(spl (List.replicate (n+1) []) 0 [x]).take (min 1 (n+1))=List.replicate (min 1 (n+1)) x
    rw[show min 1 (n+1)=1 by omega]
    rfl
 ·refine Zap rfl rfl ?_ ?_
  ·exact⟨⟨rfl,e1.symm,e1.symm⟩,by rw[e1];rfl,trivial⟩
  ·exact⟨⟨by rw[e1];rfl,fun _=>rfl⟩,trivial⟩
end Go.Proofs.YtdnodlkdndfplaaGreatDoor
