/- lin.Reduce: the reduced echelon form. -/
import Derived.Test.YtplkkbcnilnfaaaGreatDoorQ5
set_option linter.all false
set_option maxHeartbeats 32000000
set_option maxRecDepth 100000
open Go.Proofs.Tryz
open Go.IntKind(i64)
namespace Go.Proofs.YtplkkbcnilnfaaaGreatDoor
open Go.Am Go.Tx Dv Go.Lib La
def ZAh {n W k c:Nat} {M N:Mx} {p:List Nat} (h:Elm n W M k p N) (hp:n<=p.length) (C:k<=c):Elm n W M c p N:=
 ⟨h.req,⟨h.ech.mn,h.ech.inc,λt I=>Xa6 (h.ech.lt t I) C,h.ech.one,h.ech.col,λi j R J _=>absurd J (by omega)⟩,h.kinds⟩
def pvR (p:List Nat):SM:= .row (.i .i64) (p.map Int.ofNat) true
def vR (n j:Nat) (p:List Nat) (k:Nat):TM:=[(0, .ref 0 0 n none),(1,nt j),(6, .ref (n+1) 0 p.length none),(7,nt k)]
def vS (n j m k:Nat):TM:=[(0, .ref 0 0 n none),(1,nt j),(6, .ref (n+1) 0 m none),(7,nt k),(8,nt m)]
def elN (N:Mx) (m q k:Nat):Mx:=λi j=>if i=m then N q j/N q k else swR N m q i j-swR N m q i k*(N q j/N q k)
def ZHt (n W j:Nat) (f0:Mx) (V:SV) (hp:List SM) (C:Bool):Prop:= ∃N p,Elm n W f0 j p N/\V= .tup [.ref 0 0 n none, .ref (n+1) 0 p.length none]/\hp=hpM n W N [pvR p]/\C=false
def ZAX (n W C K:Nat) (f0:Mx) (hn:n<=1000) (hW:W<=1000) (a6:n=0\/1<=W) (ag:C<=W) (hK:K<=50000000) (hs: ∀k p N,k<=W->Elm n W f0 k p N-> ∀i j,i<n->j<W->szQ (N i j) K):
 ImpOK prog Zaj 103 [.v (.l (.l qct)) (ZbE n W f0),nt C] (ZHt n W C f0):=by
 refine Zbs Zab func103 ?_;show CodeOK prog Zaj 0 cxR (bodyOf Tryz.f103) [(0, .v (.l (.l qct)) (ZbE n W f0)),(1,nt C)] [] (ZnZ tys Tryz.f103.results.toList λV hp=>ZyB (ZHt n W C f0) V hp);have af: ∀x∈ZbE n W f0,x.length=W:=λx hx=>by obtain⟨i,_,rfl⟩:=XaU.1 hx;exact Za1
 have ah:=ZFM (ZbE n W f0) [] (by rw[ZaA];exact hn) (λx hx=>by rw[af x hx];exact hW) (λx hx e=>by have h1:=af x hx;rw[e]at h1;rcases a6 with h|h;subst h;exact absurd hx Xav;rw[<-h1]at h;exact absurd h (by decide));have an:(ZbE n W f0).length=n:=ZaA;refine Zah (Zag Zab ?_);refine auG ?_;refine Zah (Zag Zab ?_);refine auH ?_;refine Zac rfl ((ah.mono ?_));rintro _ _ ⟨rfl,rfl⟩;refine Zaa rfl rfl ?_;refine auN ?_;refine Zah (Zag Zab ?_);refine auG ?_;refine CodeOK.ent (tm':=[(6, .nils),(0, .ref 0 0 n none),(1,nt C)]) (hp':=hpM n W f0 []) ?_ (Ent.eqs (by rw[hpM,Xbl,Xbl,XaN];rfl) (Zae ⟨rfl,congrArg (λx=>some (SV.ref 0 0 x none)) an,rfl,trivial⟩));refine CodeOK.ent (tm':=[(6, .ref (n+1) 0 0 none),(0, .ref 0 0 n none),(1,nt C)]) (hp':=hpM n W f0 [pvR []]) ?_ (by have hx:hpM n W f0 []++ [SM.row (.i .i64) ([]:List Int) true]=hpM n W f0 [pvR []]:=Zf3;rw[<-hx];refine Ztk (k:=6) (Xap _) rfl (λi V hi h=> ?_) (congrArg (λx=>some (SV.ref x 0 0 none)) (Zb4 (n:=n) (W:=W) (f:=f0) (ex:=[])).symm);have hb:Nat.beq i 6=false:=(by cases hb:Nat.beq i 6 with|true=>exact absurd (Xar hb) hi|false=>rfl);simp only[Zck,hb]at h|-;exact h);refine Zah (Zah (Zag Zab ?_));refine auG ?_;refine ZaY rfl (ZbG ?_);refine Zf7 rfl (λ(t:Nat×List Nat×Mx)=>vR n C t.2.1 t.1) (λt=>hpM n W t.2.2 [pvR t.2.1]) (λt=>t.1<=C/\Elm n W f0 t.1 t.2.1 t.2.2) (λt=>C-t.1) ?_ (0,[],f0) ⟨Xap _,Elm.start λ_ _ _ _=>rfl⟩ (Zae ⟨rfl,rfl,rfl,rfl,trivial⟩);rintro⟨k,p,N⟩ ⟨hk,hE⟩;simp only at hk hE;have bk:=hE.ech.mn;have ao:k<=W:=XaK hk ag;have sN:=hs k p N ao hE;have fin: ∀c,k<=c->Elm n W f0 c p N->c=C-> ∀tm:TM,Zck 0 tm=some (.ref 0 0 n none)->Zck 6 tm=some (.ref (n+1) 0 p.length none)->CodeOK prog Zaj 0 cxR (ZwR 4 (bodyOf Tryz.f103)) tm (hpM n W N [pvR p]) (ZnZ tys Tryz.f103.results.toList λV hp=>ZyB (ZHt n W C f0) V hp):=by rintro c _ a7 rfl tm g0 g6;refine CodeOK.ent (tm':=[(0, .ref 0 0 n none),(6, .ref (n+1) 0 p.length none)]) (hp':=hpM n W N [pvR p]) ?_ (Zae ⟨g0,g6,trivial⟩);refine Zah (Zag Zab ?_);refine auG ?_;refine Zag Zab ?_;have aq:(ZbE n W N).length=n:=ZaA;refine(⟨.tup [.ref 0 0 n none, .ref (n+1) 0 p.length none],hpM n W N [pvR p],Zar,⟨rfl,rfl,ZAW (λV hV=> ?_) Xai (λe m hm=> ?_) (λj hj=> ?_)⟩,N,p,a7,rfl,rfl,rfl⟩:ZyB (ZHt n W c f0) (.tup [.ref 0 0 n none, .ref (n+1) 0 p.length none]) (hpM n W N [pvR p]));rcases Xau.1 hV with rfl|hV;rfl;rw[Xat.1 hV];rfl;(cases e with|zero=>cases hm;exact⟨⟨_,_,_,rfl⟩,by rw[aq];exact Xaj _ Xai⟩|succ e=>cases hm);rw[aq];rcases Xau.1 hj with rfl|hj;omega;rw[Xat.1 hj];exact XaS _
 cases h1:decide ((k:Int)<(C:Int))with
 |false=>have ab:k=C:=(by have:=of_decide_eq_false h1;omega);refine Zah (Zag Zab ?_);refine auG ?_;refine brF rfl ?_;exact fin k (Xag k) hE ab _ rfl rfl
 |true=>
  have ab:k<C:=(by have:=of_decide_eq_true h1;omega);cases h2:decide ((p.length:Int)<(n:Int))with
  |false=>have I:n<=p.length:=(by have:=of_decide_eq_false h2;omega);refine Zah (Zag Zab ?_);refine auG ?_;refine brF h2 ?_;exact fin C hk (ZAh hE I hk) rfl _ rfl rfl
  |true=>
   have I:p.length<n:=(by have:=of_decide_eq_true h2;omega);have J:k<W:=(by omega);refine Zah (Zag Zab ?_);refine auG ?_;refine brT h2 ?_;refine Zah (ZaY rfl ?_);refine Zah (Zag Zab ?_);refine auG ?_;refine Zah (Zag Zab ?_);refine auG ?_;refine Zah (ZaY rfl (ZbG ?_));refine((ZIQ n W C p.length k N [pvR p] hn (by omega) J).ent ?_).mono ?_;exact Zae ⟨rfl,rfl,rfl,rfl,rfl,rfl,trivial⟩;rintro _ _ _ ⟨rfl,q,q1,q2,q3,q4,rfl,rfl⟩;cases h3:decide ((q:Int)=(n:Int))with
   |true=>have R:q=n:=(by have:=of_decide_eq_true h3;omega);refine Zah (Zag Zab ?_);refine auG ?_;refine brT h3 ?_;refine Zag Zab ?_;refine auG ?_;refine⟨(k+1,p,N),⟨ab,hE.skip λi g1 g2=>q3 i g1 (by omega)⟩,by show C-(k+1)<C-k;omega, ?_⟩;exact Zae ⟨rfl,rfl,rfl,congrArg (λx=>some (SV.v (.i .i64) x)) (Zbd (by omega)),trivial⟩
   |false=>
    have R:q<n:=(by have:=of_decide_eq_false h3;omega);have hd:=q4 R;have ai:Elm n W f0 (k+1) (p++ [k]) (elN N p.length q k):=hE.step q1 R J hd λi j _ _=>rfl;have sE:=hs (k+1) (p++ [k]) _ J ai;refine Zah (Zag Zab ?_);refine auG ?_;refine brF h3 ?_;have cq:=cin R;have cm:=cin I;have ck:=cin J;have em:0+(p.length:Int).toNat=p.length:=(by rw[Xac,Xak]);have eq:0+(q:Int).toNat=q:=(by rw[Xac,Xak]);have hA:nth (hpM n W N [pvR p]) 0=some (.many (.l qct) (Zaz 1 (ZbE n W N)) true):=rfl;have ar:=Zdl (W:=W) (f:=N) (p:=1) R;have au:=Zdl (W:=W) (f:=N) (p:=1) I;have a8: ∀V:SV,0+(p.length:Int).toNat<(Zaz 1 (ZbE n W N)).length:=λ_=>by rw[ZaI,ZaA];omega
    have ba: ∀V:SV,0+(q:Int).toNat<((Zaz 1 (ZbE n W N)).set (0+(p.length:Int).toNat) V).length:=λ_=>by rw[XaB,ZaI,ZaA];omega
    refine Zah (Zag Zab ?_);refine ZDY ?_;refine Zax rfl rfl (opv (λ_=>rfl) rfl rfl ?_);refine Zax rfl rfl (opv (λ_=>rfl) rfl rfl ?_);refine ZiW rfl rfl rfl rfl rfl ?_;refine ZiW rfl rfl rfl rfl rfl ?_;refine Zax rfl rfl (opv (λ_=>rfl) rfl rfl ?_);refine Zax rfl rfl (opv (λ_=>rfl) rfl rfl ?_);refine Zax rfl rfl (Zav rfl rfl rfl rfl rfl hA rfl cq ?_);refine ZaT rfl rfl ?_;refine Zax rfl rfl (ZaG rfl rfl hA ar rfl ?_);refine ZaT rfl rfl ?_;refine Zax rfl rfl (opv (λ_=>rfl) rfl rfl ?_);refine Zax rfl rfl (opv (λ_=>rfl) rfl rfl ?_);refine Zax rfl rfl (Zav rfl rfl rfl rfl rfl hA rfl cm ?_);refine ZaT rfl rfl ?_;refine Zax rfl rfl (ZaG rfl rfl hA au rfl ?_);refine ZaT rfl rfl ?_;refine Zax rfl rfl (Zav rfl rfl rfl rfl rfl hA rfl cm ?_);refine ZaT rfl rfl ?_;refine Zin rfl rfl (ZeN rfl rfl rfl hA rfl rfl rfl (a8 .nils) ?_);refine Zal rfl ?_;refine Zax rfl rfl (Zav rfl rfl rfl rfl rfl rfl rfl cq ?_);refine ZaT rfl rfl ?_;refine Zin rfl rfl (ZeN rfl rfl rfl rfl rfl rfl rfl (ba _) ?_);refine Zal rfl ?_;refine ZEF ?_;refine CodeOK.ent (tm':=vS n C p.length k) (hp':=hpM n W (swR N p.length q) [pvR p]) ?_ (by have av:p.length<(ZbE n W N).length:=(by rw[ZaA];exact I);have aw:q<(ZbE n W N).length:=(by rw[ZaA];exact R);rw[em,eq];refine ZyU (xs:=ZbE n W N) (ys:=ZbE n W (swR N p.length q)) (a:=p.length) (b:=q) (la:=W) (lb:=W) av aw (by rw[Zct av,Za1]) (by rw[Zct aw,Za1]) (by rw[ZaA,ZaA]) (λj h1 h2=> ?_) (Xap _) (λm hm=>by rw[Xat.1 hm];rfl) ?_;rw[Zct h1,Zct h2];refine Zgd λb _=> ?_;simp only[swR,swJ];split;rfl;split<;>rfl;have hlen:(ZbE n W N).length=n:=ZaA;refine⟨rfl,λid h=> .inl (by simpa[ZdI]using h),rfl,λid h=>absurd h Xav,rfl,λid h=> .inr ?_,rfl,λid h=>absurd h Xav,rfl,λid h=>absurd h Xav,trivial⟩;have hid:id=n+1:=(by simpa[ZdI]using h);subst hid;rw[hlen];exact⟨XaS n,by show n+1<n+1+1;omega⟩);obtain⟨N1,ad⟩: ∃x,swR N p.length q=x:=⟨_,rfl⟩;have ae: ∀j,N1 p.length j=N q j:=λj=>by rw[<-ad];exact if_pos rfl
    have bb: ∀i,i<n-> ∃i',i'<n/\ ∀j,N1 i j=N i' j:=λi hi=>by rw[<-ad];simp only[swR];by_cases h1:i=p.length;exact⟨q,R,λj=>by rw[if_pos h1]⟩;by_cases h2:i=q;exact⟨p.length,I,λj=>by rw[if_neg h1,if_pos h2]⟩;exact⟨i,hi,λj=>by rw[if_neg h1,if_neg h2]⟩
    have nE: ∀i j,elN N p.length q k i j=if i=p.length then N q j/N q k else N1 i j-N1 i k*(N q j/N q k):=λi j=>by rw[<-ad];rfl
    rw[ad];obtain⟨d,ed⟩: ∃x,N q k=x:=⟨_,rfl⟩;rw[ed]at hd nE;have aa:=ZiB (W:=W) (f:=N1) (ex:=[pvR p]) I;have U:=Zmj (u:=N1 p.length) J;rw[ae k,ed]at U;have ax:nth (hpM n W N1 [pvR p]) 0=some (.many (.l qct) (Zaz 1 (ZbE n W N1)) true):=rfl;have aj:=Zdl (W:=W) (f:=N1) (p:=1) I;have ak: ∀c:SM,nth (hpM n W N1 ([pvR p]++ [c])) (hpM n W N1 [pvR p]).length=some c:=λc=>by rw[Zb4];exact Zjn (e:=1)
    have ay: ∀x y:SM,(hpM n W N1 ([pvR p]++ [x])).set (hpM n W N1 [pvR p]).length y=hpM n W N1 [pvR p,y]:=λx y=>by rw[Zb4];exact Znq (e:=1)
    have bc:(hpM n W N1 [pvR p]).length=n+2:=Zb4;have s1: ∀i j,i<n->j<W->szQ (N1 i j) K:=λi j hi hj=>by obtain⟨i',h1,h2⟩:=bb i hi;rw[h2];exact sN i' j h1 hj
    have z1: ∀j,j<k->N1 p.length j=0:=λj hj=>by rw[ae];exact hE.ech.low q j q1 R hj
    have sd:szQ d K:=(by rw[<-ed];exact sN q k R J);refine Zah (Zag Zab ?_);refine auH ?_;refine Zac rfl (Zav rfl rfl rfl rfl rfl ax rfl cm ?_);refine Zaa rfl rfl ?_;refine Zac rfl (ZaG rfl rfl ax aj rfl ?_);refine Zaa rfl rfl ?_;refine ZfJ ?_;refine Zac rfl (Zam rfl rfl rfl rfl rfl aa rfl ck ?_);refine Zaa rfl rfl ?_;refine Zac rfl (Zau (V:=QR d) rfl rfl aa U rfl ?_);refine Zaa rfl rfl ?_;refine ZIU ?_;refine ZcW Zf3 ?_;refine Zac rfl (Zay rfl rfl rfl (ak _) rfl rfl rfl rfl ?_);refine Zal rfl ?_;refine Zc2 ?_;refine Zah (Zah (Zag Zab ?_));refine auG ?_;refine ZaY rfl (ZbG ?_);refine((ZIV n W C p.length k K N1 d (pvR p) hn hW I ao (by omega) hd sd (λj hj=>s1 _ j I hj) z1).ent ?_).mono ?_;exact Ent.eqs (ay _ _) (Zae ⟨rfl,rfl,rfl,rfl,rfl,congrArg (λx=>some (SV.ptr x 0 0)) bc,rfl,trivial⟩);rintro _ _ _ ⟨rfl,rfl,rfl⟩;obtain⟨f,ef⟩: ∃x,fB N1 p.length d W=x:=⟨_,rfl⟩;have fm: ∀j,j<W->f p.length j=N q j/d:=λj hj=>by rw[<-ef];unfold fB;rw[if_pos ⟨rfl,hj⟩,ae]
    have fo: ∀i j,i≠p.length->f i j=N1 i j:=λi j hi=>by rw[<-ef];exact if_neg λh=>hi h.1
    rw[ef];have sf: ∀a j,a<n->j<W->szQ (f a j) K:=λa j ha hj=>by by_cases h:a=p.length;have:=sE p.length j I hj;rw[nE,if_pos rfl]at this;rw[h,fm j hj];exact this;rw[fo a j h];exact s1 a j ha hj
    refine Zah (Zah (Zag Zab ?_));refine auG ?_;refine ZaY rfl (ZbG ?_);refine((ZIB n W C p.length k K f (elN N p.length q k) (cQ d) (pvR p) hn hW I J hK sf rfl rfl (λj hj=>by rw[fm j (by omega),<-ae,z1 j hj];grind) (λj hj=>by rw[nE,if_pos rfl,fm j hj]) (λi j hi al hj=>by rw[nE,if_neg al,fo i j al,fo i k al,fm j hj])).ent ?_).mono ?_;exact Zae ⟨rfl,rfl,rfl,rfl,rfl,rfl,rfl,trivial⟩;rintro _ _ _ ⟨rfl,rfl,rfl⟩;obtain⟨G,eG⟩: ∃x,elN N p.length q k=x:=⟨_,rfl⟩;rw[eG]at ai|-;have bf:(hpM n W G [pvR p,cQ d]).length=n+3:=Zb4;have bg: ∀x:SM,nth (hpM n W G ([pvR p,cQ d]++ [x])) (n+1)=some (.row (.i .i64) (p.map Int.ofNat) true):=λx=>Zjn (e:=0)
    have az: ∀x:SM,nth (hpM n W G ([pvR p,cQ d]++ [x])) (hpM n W G [pvR p,cQ d]).length=some x:=λx=>by rw[bf];exact Zjn (e:=2)
    refine Zag Zab ?_;refine auH ?_;refine ZcW Zf3 ?_;refine Zac rfl (Zcj (l:=p.map Int.ofNat) (x:=(k:Int)) rfl rfl rfl rfl rfl rfl rfl rfl rfl (bg _) (az _) (XaG _).symm (show(p.length+1)*8<=140737488355328 by omega) ?_);refine Zaa rfl rfl ?_;refine auN ?_;refine Zag Zab ?_;refine auG ?_;refine⟨(k+1,p++ [k],G),⟨ab,ai⟩,by show C-(k+1)<C-k;omega, ?_⟩;have a1: ∀x:SM,(hpM n W G ([pvR p,cQ d]++ [x])).set (n+1) .dead++ [SM.row (.i .i64) (p.map Int.ofNat++ [(k:Int)]) true]=hpM n W G [.dead,cQ d,x,pvR (p++ [k])]:=λx=>by have e1:(hpM n W G ([pvR p,cQ d]++ [x])).set (n+1) .dead=hpM n W G [.dead,cQ d,x]:=Znq (e:=0);have e2:SM.row (.i .i64) (p.map Int.ofNat++ [(k:Int)]) true=pvR (p++ [k]):=(by rw[pvR,Xby];rfl);rw[e1,e2];exact Zf3
    have bh: ∀x:SM,(hpM n W G ([pvR p,cQ d]++ [x])).length=n+1+3:=λx=>Zb4
    have bj:(p++ [k]).length=p.length+1:=(by rw[Xas];rfl);refine Ent.eqs (a1 _) (ZCn (e:=3) rfl rfl (Xap _) ?_);refine⟨rfl,ZaQ (by omega),rfl,ZaJ, ?_,ZaQ (by omega),congrArg (λx=>some (SV.v (.i .i64) x)) (Zbd (by omega)),ZaJ,trivial⟩;show some (SV.ref (hpM n W G ([pvR p,cQ d]++ [_])).length 0 (p.length+1) none)=some (SV.ref (if n+1=n+1 then n+1+3 else n+1) 0 (p++ [k]).length none);rw[bh,if_pos rfl,bj]
open Ne
def ZqB (n:Nat) (j:n<41):ImpOK prog Zaj 82 [.v (.i .i64) (n:Int)] (λV hp C=>V= .ref 0 0 n none/\hp=[.row qct (List.replicate n (Zbo 0)) true]/\C=false):=by refine Zbs Zab func82 (Zag Zab ?_);have hW:=Zky 0 (by decide) (by decide);have hR:=Zts (bb:=true) true (Zbo 0) n j;refine auG ?_;refine auH ?_;refine Zac rfl (Xab (show 0+1<=1 by decide) (hR.mono ?_));rintro _ _ _ ⟨rfl,rfl,rfl⟩;refine Zaa rfl rfl ?_;refine auN ?_;refine⟨.ref 0 0 n none,[.row qct (List.replicate n (Zbo 0)) true], ?_,⟨rfl,rfl,Zln⟩,rfl,rfl,rfl⟩;exact ZaH (σ:=[.is 1]) rfl rfl ⟨⟨rfl,rfl,rfl⟩,trivial⟩ ⟨⟨rfl,id⟩,trivial⟩
def ZHQ (l:List qct.D) (C:l.length<=1000):ImpOK prog Zaj 64 [.v (.l qct) l] (λV hp I=>V= .ref 0 0 l.length none/\hp=[.row qct l true]/\I=false):=by refine Zbs Zab func64 (Zag Zab ?_);refine Xab (λh=>Xab (λ_=> ?_) (λh=>nomatch h)) (Xab (λh=>nomatch h) (λ_=> ?_));subst h;refine⟨.ref 0 0 0 none,[.row qct [] true], ?_,⟨rfl,rfl,Zln⟩,rfl,rfl,rfl⟩;exact ZaH rfl rfl ⟨⟨rfl,rfl,rfl⟩,trivial⟩ ⟨rfl,trivial⟩;cases l with|nil=>refine Xab (Xap _) ?_;refine⟨.ref 0 0 0 none,[.row qct [] true], ?_,⟨rfl,rfl,Zln⟩,rfl,rfl,rfl⟩;exact ZaH rfl rfl ⟨⟨rfl,rfl,rfl⟩,trivial⟩ ⟨⟨rfl,λ_=>rfl⟩,trivial⟩|cons x r=>refine Xab (Xap _) ?_;refine Xab (show(0+(r.length+1))*64<=140737488355328 by rw[Xaq]at C;omega) ?_;refine⟨.ref 0 0 (r.length+1) none,[.row qct (x::r) true], ?_,⟨rfl,rfl,Zln⟩,rfl,rfl,rfl⟩;have j:r.length+1=0+(r.length+1):=(Xak _).symm;exact ZaH rfl rfl ⟨⟨rfl,j,j⟩,trivial⟩ ⟨⟨rfl,λ_=>rfl⟩,trivial⟩
end Go.Proofs.YtplkkbcnilnfaaaGreatDoor
namespace Go.Tx
open Go.Am
def Zzi {P:Program} {h:Hints} {T:TypeId->TI} {tm:TM} {hp:List SM} {op:Op} {ct:CT} {by_ id n C j:Nat} {m2:Option Nat} {b:Bool} {l I:List ct.D} {k:SV->List SM->Prop}
 {c:Call} {t t2 e U:TypeId} {ts:List TypeId} (ho:op= .call c) (hc:c.callee= .builtin .append) (ha:evL tm c.args.toList=some [.ref id 0 n none, .ref C 0 j m2]) (ht:c.argTypes.toList=t::t2::ts) (aa:(T t).k= .slice e) (ab:(T t2).k= .slice U) (ad:(T e).ct=some ct) (ae:(T e).by_=by_) (J:(ZcO (T e).k,Nat.ble 1 (T e).by_&&Nat.ble 1 (T e).sz,h.frz t)=(false,true,false))
 (hn:nth hp id=some (.row ct l true)) (af:nth hp C=some (.row ct I b)) (hl:n=l.length) (R:j=I.length) (h1:1<=j) (hz:(n+j)*by_<=140737488355328)
 (hk:k (.ref hp.length 0 (n+j) none) (hp.set id .dead++ [.row ct (l++I) true])):opT P h T op tm hp k:=by
 have hg:Zys ct hp (.ref C 0 j m2) (λnew=>ZuV ct by_ hp (.ref id 0 n none) new k):=by refine Zjx af (by omega) ?_;have U:sub I 0 j=I:=(by rw[sub,XaV,XaA (by omega)]);rw[U];cases I with|nil=>simp at R;omega|cons x r=>have e3:r.length+1=j:=R.symm;subst e3;refine ZnI hn (by omega) hz ?_;have e1:sub l 0 n=l:=(by rw[sub,XaV,XaA (by omega)]);rw[e1];exact hk
 simp only[Prod.mk.injEq]at J;obtain⟨ag,ah,ai⟩:=J;simp only[ho,opT,ZfU,ha,hc,ZgX,ht,aa,ab,ad,ah,ai];subst ae;generalize(T e).k=kk at*;cases kk<;>first|(cases ag;done)|exact hg
end Go.Tx
namespace Go.Proofs.YtplkkbcnilnfaaaGreatDoor
open Go.Am Go.Tx Dv Go.Lib
structure Mat (m:List (List (List UInt8))) (pss:List (List Rat)):Prop where
 txt:m=ZJy pss
 fit: ∀ps∈pss,∀p∈ps,ZoL p=true
 len:pss.length<=40
 row: ∀ps∈pss,ps.length=ZI3 pss
 wid:ZI3 pss<=40
open La
def ZBC {B:Nat}: ∀n,n<=64->bd n B<=(64*B)^n
 |0,_=>Xag 1
 |n+1,h=>by rw[bd,Nat.pow_succ,Nat.mul_comm ((64*B)^n),<-XbX];exact Xbb (Xbb h (Xag B)) (ZBC n (by omega))
def ZAf {B n b:Nat} (hB:B<=2^b) (C:n<=63):(n+1)*(B*bd n B)<=2^((b+6)*(n+1)):=by
 have j:(n+1)*(B*bd n B)<=64*B*(64*B)^n:=by rw[<-XbX];exact Xbb (Xbb (by omega) (Xag B)) (ZBC n (by omega))
 refine XaK j ?_;rw[Nat.mul_comm,<-Nat.pow_succ,Nat.pow_mul];refine Nat.pow_le_pow_left ?_ _;rw[Nat.pow_add,Nat.mul_comm];exact Xbb hB (by decide)
def Zm6 {a:Int} {X e K:Nat} (h:a.natAbs<=X) (hX:X<=2^e) (he:e<32*K):ln a<=K:=by rw[ZEq];refine Nat.lt_of_le_of_lt (XaK h hX) ?_;rw[show(4294967296:Nat)=2^32 by decide,<-Nat.pow_mul];exact Nat.pow_lt_pow_right (by decide) he
def ZBD {q:Rat} {a b:Int} {X e K:Nat} (h:q=(a:Rat)/(b:Rat)) (I:b≠0) (j:a.natAbs<=X) (C:b.natAbs<=X) (hX:X<=2^e) (he:e<32*K):szQ q K:=by rw[h,<-Rat.divInt_eq_div];rcases Int.lt_or_le b 0 with hn|hn;rw[<-Rat.neg_divInt_neg];exact ZjF (by omega) (Zm6 (by rw[Int.natAbs_neg];exact j) hX he) (Zm6 (by rw[Int.natAbs_neg];exact C) hX he);exact ZjF (by omega) (Zm6 j hX he) (Zm6 C hX he)
def ZFL {n W b K:Nat} {M:Mx} {L:Int} (C:Ints n W M L (2^b)) (I:n<=63) (J:(b+6)*(n+1)<32*K): ∀k p N,k<=W->Elm n W M k p N-> ∀i j,i<n->j<W->szQ (N i j) K:=by intro k p N R hE i j hi U;obtain⟨x,y,h1,h2,h3,h4⟩:=hE.size C (Nat.pow_pos (by decide)) R hi U;exact ZBD h2 h1 h3 h4 (ZAf (Xag _) I) J
def xsI (n W:Nat) (g:Mx) (i:Nat):List (List qct.D):=(List.range n).map λa=>if a<i then Za7 W (g a)else[]
def ZjT {n W i:Nat} {g:Mx}:(xsI n W g i).length=n:=by rw[xsI,XaG,Xbe]
def ZtE {n W i a:Nat} {g:Mx} (j:a<n):(xsI n W g i)[a]? =some (if a<i then Za7 W (g a)else[]):=by rw[xsI,XaC,Xbf j];rfl
def Zzz {n W:Nat} {g:Mx}:xsI n W g 0=List.replicate n []:=by apply XaW;intro a;by_cases j:a<n;rw[ZtE j,Xbn,if_pos j,if_neg (Xa1 a)];rw[Xax (by rw[ZjT];omega),Xax (by rw[XaM];omega)]
def ZAQ {n W:Nat} {g:Mx}:xsI n W g n=ZbE n W g:=Xbd λa j=>by rw[if_pos (Xba.1 j)]
def ZDv {n W i:Nat} {g:Mx} (hi:i<n):(xsI n W g i).set i (Za7 W (g i))=xsI n W g (i+1):=by apply XaW;intro a;by_cases j:a<n;rw[ZtE j];by_cases e:i=a;subst e;rw[XaE (by rw[ZjT];exact j),if_pos (XaS i)];rw[XaD e,ZtE j];by_cases h:a<i;rw[if_pos h,if_pos (by omega)];rw[if_neg h,if_neg (by omega)];rw[Xax (by rw[XaB,ZjT];omega),Xax (by rw[ZjT];omega)]
def Zzp {n i:Nat} {f:Mx} (hi:i<n):(Za7 n (f i)++List.replicate n (Zbo 0)).set (n+i) (Zbo 1)=Za7 (n+n) (Zfw n f i):=by apply XaW;intro a;have j:(Za7 n (f i)).length=n:=Za1;by_cases J:a<n+n;rw[ZbR J,Zfw];by_cases C:a<n;rw[XaD (by omega),Xam (by rw[j];exact C),ZbR C,if_pos C];rw[if_neg C];by_cases I:a=n+i;subst I;rw[XaE (by rw[Xas,j,XaM];omega),if_pos rfl];rw[XaD (by omega),Xaz (by rw[j];omega),j,Xbn,if_pos (by omega),if_neg I];rw[Xax (by rw[XaB,Xas,j,XaM];omega),Xax (by rw[Za1];omega)]
abbrev mtI (xs:List (List qct.D)):List SM:= .many (.l qct) (Zaz 1 xs) true::([]++(ZaU qct xs++ []))
def ZzX {xs:List (List qct.D)} {i:Nat} (hi:i<xs.length) (he:xs[i]=[]):(ZaU qct xs).set i (.row qct [] true)=ZaU qct xs:=by rw[Zj3];congr 1;rw[<-he,List.set_getElem_self]
def Zzf {tm tm':TM} {xs:List (List qct.D)} {i i' n L e C:Nat} {ex:List SM} {y:List qct.D} (j:i<xs.length) (I:xs[i]=[]) (J:xs.length=n) (U:i'=i) (hx:ex[e]? =some (.row qct y true)) (hL:L=1+n+e) (hN:C=y.length) (R:ZBN 1 tm tm'):
 Ent 0 tm (.many (.l qct) ((Zaz 1 xs).set i' (.ref L 0 C none)) true::([]++(ZaU qct xs++ex))) tm' (mtI (xs.set i y)):=by have h:=Zy0 (F:=0) (ct:=qct) (fr:=[]) (ex:=ex) (xs:=xs) (i:=i) (i':=i') (n':=C) (e:=e) (L:=L) (p:=1) (y:=y) (d:= .row qct [] true) U hN rfl j (by rw[hL,J];simp) hx (Xap _) (λ_ h=>absurd h Xav) R;rw[ZzX j I]at h;exact h
def vIA (n:Nat) (f:Mx) (i:Nat):TM:=[(0, .v (.l (.l qct)) (ZbE n n f)),(4,nt n),(5, .ref 0 0 n none),(15,nt n),(16,nt i)]
def ZJo (n:Nat) (f:Mx) (hn:n<=40):LoopOK prog Zaj 0 ⟨84,0,66⟩ (Za6 Tryz.f84 4) (vIA n f 0) (mtI (xsI n (n+n) (Zfw n f) 0))
 (λe tm hp=>e= .exit 0/\Ent 0 tm hp [(4,nt n),(5, .ref 0 0 n none)] (mtI (ZbE n (n+n) (Zfw n f)))):=by
 refine Zap Zab rfl (vIA n f) (λi=>mtI (xsI n (n+n) (Zfw n f) i)) (λi=>i<=n) (λi=>n-i) ?_ 0 (Xap _) Zar;intro i hi;cases h1:decide ((i:Int)<(n:Int))with
 |false=>have he:i=n:=(by have:=of_decide_eq_false h1;omega);subst he;refine auG ?_;refine brF h1 ?_;exact⟨rfl,Ent.eqs (by rw[ZAQ]) (Zae ⟨rfl,rfl,trivial⟩)⟩
 |true=>
  have I:i<n:=(by have:=of_decide_eq_true h1;omega);have ci:=cin I;have gm:(ZbE n n f)[(i:Int).toNat]? =some (Za7 n (f i)):=(by rw[Xac];exact Zko I);have R:(Za7 n (f i)).length=n:=Za1;have J:=ZDv (W:=n+n) (g:=Zfw n f) I;have C:(xsI n (n+n) (Zfw n f) i).length=n:=ZjT;have ab:i<(xsI n (n+n) (Zfw n f) i).length:=(by rw[C];exact I);have ad:(xsI n (n+n) (Zfw n f) i)[i]=[]:=(by have:=ZtE (W:=n+n) (g:=Zfw n f) (i:=i) I;rw[if_neg (Nat.lt_irrefl i),Xad ab]at this;exact Xbc this);have aa:=Zzp (f:=f) I;have hZ:=ZqB n (by omega);have hW:=Zky 1 (by decide) (by decide);obtain⟨row,ag⟩: ∃x,Za7 n (f i)=x:=⟨_,rfl⟩;obtain⟨xs,U⟩: ∃x,xsI n (n+n) (Zfw n f) i=x:=⟨_,rfl⟩;rw[ag]at gm R aa;rw[<-aa]at J;have J:xs.set i ((row++List.replicate n (Zbo 0)).set (n+i) (Zbo 1))=xsI n (n+n) (Zfw n f) (i+1):=(by rw[<-U];exact J);have C:xs.length=n:=(by rw[<-U];exact C);have ab:i<xs.length:=(by rw[C];exact I);have ad:xs[i]=[]:=(by subst U;exact ad);show wp _ _ _ _ _ _ _ (mtI (xsI n (n+n) (Zfw n f) i)) _;rw[U];have ao:(Zaz 1 xs).length=n:=(by rw[ZaI,C]);have e0:0+(i:Int).toNat=i:=(by rw[Xac,Xak]);have ah:0+(i:Int).toNat<(Zaz 1 xs).length:=(by rw[e0,ao];exact I);cases row with
  |nil=>exact absurd R (by show ¬0=n;omega)
  |cons y r=>
   have ai:r.length+1=n:=R;obtain⟨R1,ae⟩: ∃x:List qct.D,y::r=x:=⟨_,rfl⟩;obtain⟨R2,af⟩: ∃x:List qct.D,List.replicate n (Zbo 0)=x:=⟨_,rfl⟩;have l1:R1.length=n:=(by rw[<-ae];exact R);have l2:R2.length=n:=(by rw[<-af,XaM]);have zA:(r.length+1)*64<=140737488355328:=(by omega);have zB:(r.length+1+n)*64<=140737488355328:=(by omega);have p1:mtI xs++ [SM.row qct R1 true]= .many (.l qct) (Zaz 1 xs) true::([]++(ZaU qct xs++ [.row qct R1 true])):=Znz;have p2:(SM.many (.l qct) (Zaz 1 xs) true::([]++(ZaU qct xs++ [SM.row qct R1 true])))++ [SM.row qct R2 true]= .many (.l qct) (Zaz 1 xs) true::([]++(ZaU qct xs++ [.row qct R1 true, .row qct R2 true])):=Znz;have L0:(mtI xs).length=n+1:=(by rw[Zl5,C];simp;omega);have L1:(SM.many (.l qct) (Zaz 1 xs) true::([]++(ZaU qct xs++ [SM.row qct R1 true]))).length+0=n+2:=(by rw[Zl5,C];simp;omega);have L2:(SM.many (.l qct) (Zaz 1 xs) true::([]++(ZaU qct xs++ [SM.row qct R1 true, .row qct R2 true]))).length=n+3:=(by rw[Zl5,C];simp;omega);rw[af]at hZ J;rw[ae]at J;have aq:nth (SM.many (.l qct) (Zaz 1 xs) true::([]++(ZaU qct xs++ [SM.row qct R1 true, .row qct R2 true]))) (mtI xs).length=some (.row qct R1 true):=(by rw[L0,Zrv (j:=0) (by rw[C];simp;omega)];rfl);have ar:nth (SM.many (.l qct) (Zaz 1 xs) true::([]++(ZaU qct xs++ [SM.row qct R1 true, .row qct R2 true]))) ((SM.many (.l qct) (Zaz 1 xs) true::([]++(ZaU qct xs++ [SM.row qct R1 true]))).length+0)=some (.row qct R2 true):=(by rw[L1,Zrv (j:=1) (by rw[C];simp;omega)];rfl);have p3:(SM.many (.l qct) (Zaz 1 xs) true::([]++(ZaU qct xs++ [SM.row qct R1 true, .row qct R2 true]))).set (mtI xs).length .dead++ [SM.row qct (R1++R2) true]= .many (.l qct) (Zaz 1 xs) true::([]++(ZaU qct xs++ [.dead, .row qct R2 true, .row qct (R1++R2) true])):=(by rw[L0,ZxK (j:=0) (by rw[C];simp;omega),Znz];rfl);have p4: ∀a b,a=n+3->b=n+n->(SM.many (.l qct) ((Zaz 1 xs).set (0+(i:Int).toNat) (.ref a 0 b none)) true::([]++(ZaU qct xs++ [SM.dead, .row qct R2 true, .row qct (R1++R2) true])))= .many (.l qct) ((Zaz 1 xs).set (0+(i:Int).toNat) (.ref (n+3) 0 (n+n) none)) true::([]++(ZaU qct xs++ [SM.dead, .row qct R2 true, .row qct (R1++R2) true])):=λa b ha hb=>by rw[ha,hb]
   have aj:((Zaz 1 xs).set (0+(i:Int).toNat) (.ref (n+3) 0 (n+n) none))[0+(i:Int).toNat]? =some (SV.ref (n+3) 0 (n+n) none):=XaE ah;have ak:nth (SM.many (.l qct) ((Zaz 1 xs).set (0+(i:Int).toNat) (.ref (n+3) 0 (n+n) none)) true::([]++(ZaU qct xs++ [SM.dead, .row qct R2 true, .row qct (R1++R2) true]))) (n+3)=some (.row qct (R1++R2) true):=(by rw[Zrv (j:=2) (by rw[C];simp;omega)];rfl);have al:i64.wrap ((n:Int)+(i:Int))=((n+i:Nat):Int):=(by rw[Zat (by omega) (by omega)];omega);have au:0<=i64.wrap ((n:Int)+(i:Int))/\i64.wrap ((n:Int)+(i:Int))<((n+n:Nat):Int):=(by rw[al];omega);have an:0+(i64.wrap ((n:Int)+(i:Int))).toNat=n+i:=(by rw[al,Xac,Xak]);have gy:(R1++R2)[0+(i64.wrap ((n:Int)+(i:Int))).toNat]? =some (Zbo 0):=(by rw[an,Xaz (by rw[l1];omega),l1,<-af,Xbn,if_pos (by omega)]);have p5:(SM.many (.l qct) ((Zaz 1 xs).set (0+(i:Int).toNat) (.ref (n+3) 0 (n+n) none)) true::([]++(ZaU qct xs++ [SM.dead, .row qct R2 true, .row qct (R1++R2) true]))).set (n+3) (.row qct ((R1++R2).set (0+(i64.wrap ((n:Int)+(i:Int))).toNat) (Zbo 1)) true)= .many (.l qct) ((Zaz 1 xs).set (0+(i:Int).toNat) (.ref (n+3) 0 (n+n) none)) true::([]++(ZaU qct xs++ [SM.dead, .row qct R2 true, .row qct ((R1++R2).set (n+i) (Zbo 1)) true])):=(by rw[ZxK (j:=2) (by rw[C];simp;omega),an];rfl);have w1:=congrArg (λx=>some (SV.v (.i .i64) x)) (Zbd (k:=i) (by omega));refine auG ?_;refine brT h1 ?_;refine auG ?_;refine auH ?_;refine Zac rfl (Xab zA ?_);refine Zaa rfl rfl ?_;refine ZcW (hp':= .many (.l qct) (Zaz 1 xs) true::([]++(ZaU qct xs++ [.row qct R1 true]))) (by rw[<-p1,<-ae]) ?_;refine ZfJ ?_;refine Zac rfl (hZ.mono ?_);rintro _ _ _ ⟨rfl,rfl,rfl⟩;refine Zaa rfl rfl ?_;refine ZcW (hp':= .many (.l qct) (Zaz 1 xs) true::([]++(ZaU qct xs++ [.row qct R1 true, .row qct R2 true]))) (by rw[<-p2];rfl) ?_;refine Zac rfl (Zzi rfl rfl rfl rfl rfl rfl rfl rfl rfl aq ar (ai.trans l1.symm) l2.symm (by omega) zB ?_);refine Zaa rfl rfl ?_;refine ZcW (hp':=_) p3 ?_;refine Zac rfl (Zav rfl rfl rfl rfl rfl rfl rfl ci ?_);refine Zaa rfl rfl ?_;refine Zac rfl (ZeN rfl rfl rfl rfl rfl rfl rfl ah ?_);refine Zal rfl ?_;refine Zc2 ?_;refine ZpR ?_;refine ZcW (hp':=_) (p4 _ _ L2 (by omega)) ?_;refine auM ?_;refine Zac rfl (Zav rfl rfl rfl rfl rfl rfl rfl ci ?_);refine Zaa rfl rfl ?_;refine Zac rfl (ZaG rfl rfl rfl aj rfl ?_);refine Zaa rfl rfl ?_;refine auM ?_;refine Zac rfl (Zam rfl rfl rfl rfl rfl ak rfl au ?_);refine Zaa rfl rfl ?_;refine Zac rfl (Za8 (z:=Zbo 1) rfl rfl rfl ak rfl gy rfl rfl rfl ?_);refine Zal rfl ?_;refine Zc2 ?_;refine auG ?_;refine⟨i+1,I,Xbp I (XaS i), ?_⟩;show Ent 0 _ _ _ (mtI (xsI n (n+n) (Zfw n f) (i+1)));rw[<-J];refine Ent.eqs p5 ?_;exact Zzf (e:=2) (y:=(R1++R2).set (n+i) (Zbo 1)) ab ad C e0 rfl (by omega) (by rw[XaB,Xas,l1,l2]) ⟨rfl,rfl,rfl,rfl,rfl,rfl,rfl,rfl,w1,rfl,trivial⟩
def ZnY (n i:Nat):List SV:=(List.range n).map λa=>if a<i then .ref (a+1) n n none else .ref (a+1) 0 (n+n) none
def Zgc {n i:Nat}:(ZnY n i).length=n:=by rw[ZnY,XaG,Xbe]
def Znh {n i a:Nat} (j:a<n):(ZnY n i)[a]? =some (if a<i then SV.ref (a+1) n n none else .ref (a+1) 0 (n+n) none):=by rw[ZnY,XaC,Xbf j];rfl
def ZpJ {n:Nat} {N:Mx}:Zaz 1 (ZbE n (n+n) N)=ZnY n 0:=by apply XaW;intro a;by_cases j:a<n;rw[Znh j,ZcN (by rw[ZaA];exact j),if_neg (Xa1 a),Zct,Za1];rw[Xax (by rw[ZaI,ZaA];omega),Xax (by rw[Zgc];omega)]
def Zz4 {n i:Nat} (hi:i<n):(ZnY n i).set i (.ref (i+1) n n none)=ZnY n (i+1):=by apply XaW;intro a;by_cases j:a<n;rw[Znh j];by_cases e:i=a;subst e;rw[XaE (by rw[Zgc];exact j),if_pos (XaS i)];rw[XaD e,Znh j];by_cases h:a<i;rw[if_pos h,if_pos (by omega)];rw[if_neg h,if_neg (by omega)];rw[Xax (by rw[XaB,Zgc];omega),Xax (by rw[Zgc];omega)]
def hpC (n:Nat) (N:Mx) (i:Nat):List SM:= .many (.l qct) (ZnY n i) true::ZaU qct (ZbE n (n+n) N)
def ZzK {n:Nat} {u:Nat->Rat}:sub (Za7 (n+n) u) n n=Za7 n λj=>u (n+j):=by apply XaW;intro a;rw[sub];by_cases C:a<n;rw[List.getElem?_take,if_pos C,XbQ,ZbR (by omega),ZbR C];rw[Xax (by rw[Xay];omega),Xax (by rw[Za1];omega)]
def vIC (n i:Nat):TM:=[(4,nt n),(7, .ref 0 0 n none),(51,nt n),(52,nt i)]
def ZJi (n:Nat) (N:Mx) (hn:n<=40):LoopOK prog Zaj 0 ⟨84,0,66⟩ (Za6 Tryz.f84 13) (vIC n 0) (hpC n N 0)
 (λe tm hp=>e= .exit 2/\Ent 0 tm hp [(7, .ref 0 0 n none)] (hpC n N n)):=by refine Zap Zab rfl (vIC n) (hpC n N) (λi=>i<=n) (λi=>n-i) ?_ 0 (Xap _) Zar;intro i hi;cases J:decide ((i:Int)<(n:Int))with|false=>have he:i=n:=(by have:=of_decide_eq_false J;omega);subst he;refine auG ?_;refine brF J ?_;exact⟨rfl,Zae ⟨rfl,trivial⟩⟩|true=>have j:i<n:=(by have:=of_decide_eq_true J;omega);have ci:=cin j;have R:0+(i:Int).toNat=i:=(by rw[Xac,Xak]);have C:(ZnY n i)[0+(i:Int).toNat]? =some (.ref (i+1) 0 (n+n) none):=(by rw[R,Znh j,if_neg (Nat.lt_irrefl i)]);have U:0+(i:Int).toNat<(ZnY n i).length:=(by rw[R,Zgc];exact j);have I:nth (hpC n N i) (i+1)=some (.row qct (Za7 (n+n) (N i)) true):=(by rw[ZaK,hpC,XaP,ZcH (by rw[ZaA];exact j),Zct]);have hs:(0:Int)<=(n:Int)/\(n:Int)<=((n+n:Nat):Int):=(by omega);have p1:(hpC n N i).set 0 (.many (.l qct) ((ZnY n i).set (0+(i:Int).toNat) (.ref (i+1) (0+(n:Int).toNat) (n+n-(n:Int).toNat) none)) true)=hpC n N (i+1):=(by rw[R,Xac,Xak,Nat.add_sub_cancel,Zz4 j];rfl);have w1:=congrArg (λx=>some (SV.v (.i .i64) x)) (Zbd (k:=i) (by omega));refine auG ?_;refine brT J ?_;refine auG ?_;refine auH ?_;refine Zac rfl (Zav rfl rfl rfl rfl rfl rfl rfl ci ?_);refine Zaa rfl rfl ?_;refine Zac rfl (ZaG rfl rfl rfl C rfl ?_);refine Zaa rfl rfl ?_;refine ZfJ ?_;refine Zac rfl (ZqW rfl rfl rfl rfl I rfl rfl hs ?_);refine Zaa rfl rfl ?_;refine Zac rfl (Zav rfl rfl rfl rfl rfl rfl rfl ci ?_);refine Zaa rfl rfl ?_;refine Zac rfl (ZeN rfl rfl rfl rfl rfl rfl rfl U ?_);refine Zal rfl ?_;refine Zc2 ?_;refine auG ?_;refine⟨i+1,j,Xbp j (XaS i), ?_⟩;exact Ent.eqs p1 (Zae ⟨rfl,rfl,rfl,w1,trivial⟩)
def ZGu (n:Nat) (f:Mx) (V:SV):Prop:= ∃N p,Elm n (n+n) (Zfw n f) n p N/\
 ((p.length<n/\V= .tup [.nils, .v .b false])\/(n<=p.length/\V= .tup [.v (.l (.l qct)) (ZbE n n λi j=>N i (n+j)), .v .b true]))
def ZEc {n m:Nat} {N:Mx} {k:List SV->Prop} (C:k ((ZbE n n λi j=>N i (n+j)).map λx=>SV.v (.l qct) x)):Zds (ZdB (hpC n N n) (m+2)) (ZnY n n) k:=by
 have h: ∀ (d a:Nat) (k:List SV->Prop),a+d=n->k (((List.range' a d).map λi=>Za7 n λj=>N i (n+j)).map λx=>SV.v (.l qct) x)->Zds (ZdB (hpC n N n) (m+2)) ((List.range' a d).map λa=>SV.ref (a+1) n n none) k:=by intro d;induction d with|zero=>intro a k _ C;exact C|succ d R=>intro a k J C;rw[List.range'_succ,XaX];rw[List.range'_succ,XaX,XaX]at C;have I:nth (hpC n N n) (a+1)=some (.row qct (Za7 (n+n) (N a)) true):=(by rw[ZaK,hpC,XaP,ZcH (by rw[ZaA];omega),Zct]);refine ZcK I (by rw[Za1];omega) ?_;rw[ZzK];exact R (a+1) _ (by omega) C
 have U:ZnY n n=(List.range' 0 n).map λa=>SV.ref (a+1) n n none:=by rw[ZnY,List.range_eq_range'];exact Xbd λa J=>by rw[if_pos (by have:=List.mem_range'_1.1 J;omega)]
 rw[U];refine h n 0 k (by omega) ?_;rw[<-List.range_eq_range'];exact C
def ZIG {n m:Nat} {N:Mx} {k:SV->Prop} (C:k (.v (.l (.l qct)) (ZbE n n λi j=>N i (n+j)))):ZdB (hpC n N n) (m+3) (.ref 0 0 n none) k:=by have I:(ZnY n n).length=n:=Zgc;simp only[ZdB,hpC,nth];refine⟨by omega, ?_⟩;rw[show sub (ZnY n n) 0 n=ZnY n n by rw[sub,XaV,XaA (by omega)]];refine ZEc (N:=N) ?_;rw[ZjC];exact C
abbrev cxI:Cx:=⟨84,0,66⟩
def ZFz (n K:Nat) (f:Mx) (hn:n<=40) (hK:K<=50000000) (hs: ∀k p N,k<=n+n->Elm n (n+n) (Zfw n f) k p N-> ∀i j,i<n->j<n+n->szQ (N i j) K):
 PureOK prog Zaj 84 [.v (.l (.l qct)) (ZbE n n f)] (ZGu n f):=by
 refine Zgu (fn:=Tryz.f84) (code:=bodyOf Tryz.f84) Zab (by kernel_rfl) rfl func84 (by kernel_rfl) (Xao (by kernel_rfl)) ?_;obtain⟨Q,eQ⟩: ∃Q:SV->Prop,ZGu n f=Q:=⟨_,rfl⟩;rw[eQ];show CodeOK prog Zaj 0 cxI (bodyOf Tryz.f84) [(0, .v (.l (.l qct)) (ZbE n n f))] [] (ZnZ tys Tryz.f84.results.toList λV hp=>ZdB hp 40 V Q);have C:(ZbE n n f).length=n:=ZaA;have hR:=ZAX n (n+n) n K (Zfw n f) (by omega) (by omega) (by omega) (by omega) hK hs;have aa:(0:Int)<=((ZbE n n f).length:Int)/\((ZbE n n f).length:Int)<=((ZbE n n f).length:Int)/\(24:Int)*((ZbE n n f).length:Int)<=281474976710656/\((ZbE n n f).length:Int)<9223372036854775808:=by rw[C];omega
 refine Zah (Zag Zab ?_);refine auG ?_;refine Zah (Zag Zab ?_);refine auG ?_;refine Zah (Zag Zab ?_);refine auH ?_;refine Zac rfl (Xab aa ?_);refine Zaa rfl rfl ?_;refine auN ?_;refine Zah (Zah (Zag Zab ?_));refine auG ?_;refine ZaY rfl (ZbG ?_);refine((ZJo n f hn).ent ?_).mono ?_;rw[Zzz];have hlen:(((ZbE n n f).length:Nat):Int).toNat=n:=by rw[Xac,C]
 refine Ent.eqs (hp0:=[.many (.l qct) (List.replicate n .nils) true]) ?_ (Zz2 rfl (Xap _) ⟨rfl,rfl,congrArg (λx=>some (SV.v (.i .i64) x)) (congrArg Int.ofNat C),rfl,congrArg (λx=>some (SV.ref 0 0 x none)) hlen,rfl,congrArg (λx=>some (SV.v (.i .i64) x)) (congrArg Int.ofNat C),rfl,rfl,rfl,trivial⟩);show[SM.many (.l qct) (List.replicate (((ZbE n n f).length:Nat):Int).toNat .nils) true]=_;rw[hlen];rintro _ tm hp ⟨rfl,hE⟩;refine CodeOK.ent ?_ hE;refine Zah (Zag Zab ?_);refine auH ?_;refine Zac rfl (Zfj rfl rfl rfl rfl rfl (ZC2 (m:=37) rfl ZaA.symm (ZqX (n:=38) (hR.mono ?_))));rintro _ _ _ ⟨N,p,hE,rfl,rfl,rfl⟩;refine Zaa rfl rfl ?_;refine auN ?_;have I:(hpM n (n+n) N [pvR p]).length=n+1+1:=Zb4;refine CodeOK.ent (tm':=[(4,nt n),(7, .ref 0 0 n none),(8, .ref (n+1) 0 p.length none)]) (hp':=hpM n (n+n) N [pvR p]) ?_ (ZBl ZjB.symm ⟨rfl,ZaJ,rfl,ZaQ (by rw[I];omega),rfl,ZaQ (by rw[I];omega),trivial⟩ λj m hm=>ZmQ (λm hm=>by rw[Xat.1 hm];rfl) m (XaF hm));have ae:p.length<=n:=hE.ech.mn;cases U:decide ((p.length:Int)<(n:Int))with|true=>refine Zah (Zah (Zag Zab ?_));refine auG ?_;refine Zag Zab ?_;refine brT U ?_;refine auG ?_;refine Za2 ?_;(repeat (first|refine ZaL ?_|refine ZaN ?_|refine ZaE ?_));have hQ:Q (.tup [.nils, .v .b false]):=(by rw[<-eQ];exact⟨N,p,hE, .inl ⟨by have:=of_decide_eq_true U;omega,rfl⟩⟩);exact hQ|false=>have J:n<=p.length:=(by have:=of_decide_eq_false U;omega);have hQ:Q (.tup [.v (.l (.l qct)) (ZbE n n λi j=>N i (n+j)), .v .b true]):=(by rw[<-eQ];exact⟨N,p,hE, .inr ⟨J,rfl⟩⟩);refine Zah (Zah (Zag Zab ?_));refine auG ?_;refine Zag Zab ?_;refine brF U ?_;refine Zah (Zah (Zag Zab ?_));refine auG ?_;refine ZaY rfl (ZbG ?_);refine((ZJi n N hn).ent ?_).mono ?_;have e2:hpM n (n+n) N [pvR p]=hpC n N 0++ [pvR p]:=(by rw[hpC,<-ZpJ (N:=N)];rfl);have R:(hpC n N 0).length=n+1:=(by rw[hpC,Xaq,Zaq,ZaA]);refine Ent.eqs e2 (Zwc (λm hm id hid=> ?_) ⟨rfl,ZaJ,rfl,ZaQ (by rw[R];omega),rfl,ZaJ,rfl,ZaJ,trivial⟩);rw[R];rcases Xau.1 hm with rfl|hm;have hid:id∈rchL (ZnY n 0):=hid;rw[<-ZpJ (N:=N)]at hid;have:=ZeM hid;rw[ZaA]at this;omega;obtain⟨x,_,rfl⟩:=XaU.1 hm;exact absurd hid Xav;rintro _ tm hp ⟨rfl,ab⟩;refine CodeOK.ent ?_ ab;refine Zah (Zag Zab ?_);refine auG ?_;refine Zag Zab ?_;refine Za2 ?_;have ad:ZdB (hpC n N n) (36+3) (.ref 0 0 n none) (λV=>Q (.tup [V, .v .b true])):=ZIG hQ;exact ad
open Ne
def Zd7 (s:Int):List Int->Nat->Int
 | [],_=> -1
 |k::r,i=>bif decide (s=k)then(i:Int)else Zd7 s r (i+1)
def ZAF (l:List Int) (s:Int) (U:l.length<=1000):PureOK prog Zaj 102 [.v (.l IC) l, .v IC s] (λV=>V= .v (.i .i64) (Zd7 s l 0)):=by refine Zad Zab func102 ?_;refine auG ?_;refine auG ?_;refine Zap Zab rfl (λ(i:Nat)=> [(0, .v (.l IC) l),(1, .v IC s),(7,nt l.length),(8,nt i)]) (λ_=> []) (λi=>i<=l.length/\Zd7 s l 0=Zd7 s (l.drop i) i) (λi=>l.length-i) ?_ 0 ⟨Xap _,rfl⟩ (Zae ⟨rfl,rfl,rfl,rfl,trivial⟩);rintro i ⟨hi,he⟩;cases I:decide ((i:Int)<(l.length:Int))with|false=>have e:i=l.length:=(by have:=of_decide_eq_false I;omega);refine auG ?_;refine brF I ?_;refine auG ?_;exact congrArg (λx=>SV.v (.i .i64) x) (by rw[he,e,Xbt];rfl)|true=>have j:i<l.length:=(by have:=of_decide_eq_true I;omega);have R:l[(i:Int).toNat]? =some l[i]:=(by rw[Xac];exact Xad j);have C:Zd7 s (l.drop i) i=bif decide (s=l[i])then(i:Int)else Zd7 s (l.drop (i+1)) (i+1):=(by rw[XaL j,Zd7]);obtain⟨x,ex⟩: ∃x,l[i]=x:=⟨_,rfl⟩;rw[ex]at R C;refine auG ?_;refine brT I ?_;refine auG ?_;cases J:decide (s=x)with|true=>rw[J]at C;refine auG ?_;refine brT J ?_;refine auG ?_;refine Za2 ?_;(repeat (first|refine ZaL ?_|refine ZaN ?_|refine ZaE ?_));exact congrArg (λx=>SV.v (.i .i64) x) (he.trans C).symm|false=>rw[J]at C;refine auG ?_;refine brF J ?_;refine auG ?_;refine⟨i+1,⟨j,he.trans C⟩,by show l.length-(i+1)<l.length-i;omega, ?_⟩;exact Zae ⟨rfl,rfl,rfl,congrArg (λx=>some (SV.v (.i .i64) x)) (Zbd (by omega)),trivial⟩
abbrev mCT:CT:= .p (.p (.l IC) (.l IC)) (.p (.l IC) (.p (.l IC) (.p (.l qct) (.p (.l qct) (.p (.l IC) (.l (.l qct)))))))
def fL (n:Ne.Net) (k:Nat):List Int:=(List.range k).map λj=>((fBr n j:Nat):Int)
def tL (n:Ne.Net) (k:Nat):List Int:=(List.range k).map λj=>((tBr n j:Nat):Int)
def bL (n:Ne.Net) (k:Nat):List qct.D:=(List.range k).map λj=>Zbo (bBr n j)
def cL (n:Ne.Net) (k:Nat):List qct.D:=(List.range k).map λj=>Zbo (-sBr n j)
def frL (n:Ne.Net) (i:Nat):List Int:=((List.range i).filter λj=> !hdB n j).map Int.ofNat
def ZEj (n:Ne.Net) (inv:List (List qct.D)):mCT.D:=((ZcS n,Zbp n),(fL n n.brs.length,(tL n n.brs.length,(bL n n.brs.length,(cL n n.brs.length,(frL n (Zaf n),inv))))))
def ZtL (n:Ne.Net):frL n (Zaf n)=(Zho n).map Int.ofNat:=rfl
def Zkv (x:Nat): ∀ (l:List Nat) (i:Nat),(x ∉ l->Zd7 x (l.map Int.ofNat) i= -1)/\ ∀a,l[a]? =some x->(∀b,b<a->l[b]?≠some x)->Zd7 x (l.map Int.ofNat) i=((i+a:Nat):Int)
 | [],i=>⟨λ_=>rfl,λa h=>by simp at h⟩
 |k::r,i=>by obtain⟨J,R⟩:=Zkv x r (i+1);rw[XaX,Zd7];by_cases e:x=k;subst e;rw[show decide ((x:Int)=Int.ofNat x)=true from decide_eq_true rfl,cond_true];refine⟨λh=>absurd Xai h,λa j C=> ?_⟩;(cases a with|zero=>rfl|succ a=>exact absurd rfl (C 0 (Nat.zero_lt_succ a)));rw[show decide ((x:Int)=Int.ofNat k)=false from decide_eq_false λh=>e (Int.ofNat.inj h),cond_false];refine⟨λh=>J λhm=>h (Xaj _ hm),λa j C=> ?_⟩;cases a with|zero=>exact absurd (Xbc j).symm e|succ a=>rw[R a j λb I=>C (b+1) (Nat.succ_lt_succ I)];omega
def ZAa {n:Ne.Net} {a:Nat} (C:a<nF n):Zd7 (frF n a:Nat) (frL n (Zaf n)) 0=(a:Int):=by
 have h:=(Zkv (frF n a) (Zho n) 0).2 a (ZkR C) λb I e=>by have j:b<(Zho n).length:=Nat.lt_trans I C;rw[ZkR j]at e;have:=(ZfV n).inj b a j C (Xbc e);omega
 rw[ZtL,h,Xak]
def ZzN {n:Ne.Net} {i:Nat} (hi:hdB n i=true):Zd7 (i:Nat) (frL n (Zaf n)) 0= -1:=by rw[ZtL];refine(Zkv i (Zho n) 0).1 λhm=> ?_;have:=(XbF.1 hm).2;rw[hi]at this;cases this
def ZgO (n:Ne.Net):(frL n (Zaf n)).length=nF n:=by rw[ZtL,XaG];rfl
def ZoB {n:Ne.Net} (hf:Fine n):nF n<=24:=XaK (ZB1 n) (XaK (Zcl n).2 (ZaC hf).1)
def ZsA (n:Ne.Net) (hf:Fine n) (inv:List (List qct.D)) (x:Int):PureOK prog Zaj 83 [.box mCT (ZEj n inv) 0, .v IC x] (λV=>V= .v IC (Zd7 x (frL n (Zaf n)) 0)):=by refine Zad Zab func83 ?_;have j:=ZAF (frL n (Zaf n)) x (by rw[ZgO];have:=ZoB hf;omega);refine auG ?_;refine auG ?_;rfl
def Zsr (n:Ne.Net) (inv:List (List qct.D)):PureOK prog Zaj 68 [.box mCT (ZEj n inv) 0] (λV=>V=nt (Zaf n)):=by refine Zad Zab func68 ?_;refine auG ?_;refine auG ?_;exact congrArg (λz:Nat=>nt z) (ZdQ n)
end Go.Proofs.YtplkkbcnilnfaaaGreatDoor
namespace Go.Tx
open Go.Am
section
variable {P:Program} {h:Hints} {T:TypeId->TI} {F:Nat} {tm:TM} {hp:List SM} {φ:Ph}
def ZFi: ∀ {cs:List SV} {qs:List PV} {j:Nat} {V:SV},RL φ cs qs->cs[j]? =some V-> ∃q,qs[j]? =some q/\RV φ V q
 | [],_,_,_,_,h=>by simp at h
 |W::cs,qs,j,V,C,h=>by simp only[RL]at C;obtain⟨q,r,rfl,I,J⟩:=C;cases j with|zero=>cases h;exact⟨q,rfl,I⟩|succ j=>exact ZFi (cs:=cs) (qs:=r) (j:=j) J h
def Zyu: ∀ {cs:List SV} {qs:List PV} {j:Nat} {V:SV},RL φ cs qs->(∀q,qs[j]? =some q->RV φ V q)->RL φ (cs.set j V) qs
 | [],_,_,_,C,_=>by rw[List.set_nil];exact C
 |W::cs,qs,j,V,C,h=>by simp only[RL]at C;obtain⟨q,r,rfl,J,I⟩:=C;cases j with|zero=>rw[List.set_cons_zero];simp only[RL];exact⟨q,r,rfl,h q rfl,I⟩|succ j=>rw[List.set_cons_succ];simp only[RL];exact⟨q,r,rfl,J,Zyu I λq R=>h q R⟩
def Zgs {c j:Nat} {cs:List SV} {b:Bool} {ct:CT} (hF:F<=hp.length) (hc:hp[c]? =some (.cell cs b)) (hj:cs[j]? =some .nils):Ent F tm hp tm (hp.set c (.cell (cs.set j (.ref hp.length 0 0 none)) b)++ [.row ct [] true]):=by
 refine⟨λφ st af hs=> ?_⟩;have hlen:=hs.hp.len;have aa:=(Xae.1 hc).1;have ext: ∀id,id<hp.length->(φ++ [none])[id]? =φ[id]? :=λid h=>Xam (by omega)
 have le:Le φ (φ++ [none]):=λid o h=>by rw[Xam (Xae.1 h).1];exact h
 have new:(φ++ [(none:Option Nat)])[hp.length]? =some none:=by rw[Xaz (by omega),hlen,XbI];rfl
 have I:(hp.set c (.cell (cs.set j (.ref hp.length 0 0 none)) b)).length=hp.length:=XaB;have old: ∀ {id:Nat} {sm:SM},id<hp.length->(hp.set c (.cell (cs.set j (.ref hp.length 0 0 none)) b))[id]? =some sm->(id=c/\sm= .cell (cs.set j (.ref hp.length 0 0 none)) b)\/(id≠c/\hp[id]? =some sm):=λ{id sm} hid C=>by by_cases e:c=id;subst e;rw[XaE aa]at C;exact .inl ⟨rfl,(Xbc C).symm⟩;rw[XaD e]at C;exact .inr ⟨λx=>e x.symm,C⟩
 refine⟨φ++ [none],λid hid=>ext id (by omega),λi V hV=> ?_,by simp[hlen],λid sm o C ho=> ?_,λid ab sm U a ad R h2 h3 h4 h5 h6=> ?_⟩;obtain⟨q,R,h2⟩:=hs.tm _ _ hV;exact⟨q,R,RV.mono le _ _ h2⟩;by_cases hid:id<hp.length;rw[Xam (by rw[I];exact hid)]at C;rw[ext id hid]at ho;rcases old hid C with⟨rfl,rfl⟩|⟨_,C⟩;have hr:=RM.mono le (λ_ _ _=>rfl) (hs.hp.row id _ o hc ho);simp only[RM]at hr|-;obtain⟨a,ae,m',e1,e2,e3,e4⟩:=hr;refine⟨a,ae,m',e1,e2,Zyu e3 λq hq=> ?_,e4⟩;obtain⟨q',g1,g2⟩:=ZFi e3 hj;rw[hq]at g1;cases g1;simp only[RV]at g2|-;exact .inr ⟨new,g2,trivial,trivial,rfl⟩;exact RM.mono le (λ_ _ _=>rfl) (hs.hp.row id sm o C ho);have J:=(Xae.1 C).1;rw[Xas,I,List.length_singleton]at J;have e:id=hp.length:=by omega
 subst e;rw[Xaz (by rw[I];exact Xag _),I,XbI]at C;cases C;rw[new]at ho;cases ho;rfl;have lt: ∀ {id:Nat} {sm:SM},live sm=true->(hp.set c (.cell (cs.set j (.ref hp.length 0 0 none)) b)++ [SM.row ct [] true])[id]? =some sm->(φ++ [none])[id]? =some (some a)->φ[id]? =some (some a)/\ ∃U,hp[id]? =some U/\live U=true:=by intro id sm hl R h5;have hid:id<hp.length:=(by rcases Xa5 id hp.length with h|h;exact h;have J:=(Xae.1 R).1;rw[Xas,I,List.length_singleton]at J;have e:id=hp.length:=(by omega);subst e;rw[new]at h5;cases h5);rw[Xam (by rw[I];exact hid)]at R;rw[ext id hid]at h5;refine⟨h5, ?_⟩;rcases old hid R with⟨rfl,rfl⟩|⟨_,R⟩;exact⟨_,hc,rfl⟩;exact⟨_,R,hl⟩
 obtain⟨g1,m1,g2,g3⟩:=lt h3 R h5;obtain⟨g4,m2,g5,g6⟩:=lt h4 h2 h6;exact hs.hp.inj id ab m1 m2 a ad g2 g5 g3 g6 g1 g4
def Zbm {c:Cx} {a b:Code} {k:Ex->TM->List SM->Prop} (j:TM) (C:List SM) (I:CodeOK P h F c a tm hp λe tm' hp'=>e= .normal/\Ent F tm' hp' j C) (J:CodeOK P h F c b j C k):CodeOK P h F c (.seq a b) tm hp k:=
 Zah (I.mono λe tm' hp' ⟨he,hE⟩=>by subst he;exact J.ent hE)
def Zgm {c:Cx} {b:Code} {k:Ex->TM->List SM->Prop} (ha:CodeOK P h F c b tm hp λe tm1 hp1=> ∃j C,Ent F tm1 hp1 j C/\k e j C):CodeOK P h F c b tm hp k:=
 ⟨λφ st R hs=>by obtain⟨e,I,φ',tm',hp',h1,U,h3,j,C,h4,h5⟩:=ha.out φ st R hs;obtain⟨J,g1,g2⟩:=h4.out φ' I (U.len R) h3;exact⟨e,I,J,j,C,h1,U.trans g1,g2,h5⟩⟩
def ZtV (hT:TysOK P T) {f:FuncId} {fn:Func} {Vs:List SV} {Q:SV->List SM->Prop} (hf:P.funcs[f]? =some fn)
 (hw: ∀base,CodeOK P h hp.length ⟨f,base,fn.ntmps⟩ (bodyOf fn) (Zch 0 Vs) hp (ZnZ T fn.results.toList Q))
 (j:h.ok f=true:=by kernel_rfl) (U:fn.body=some (bodyOf fn):=by kernel_rfl) (hn:Vs.length<=fn.ntmps:=by exact Xao (by kernel_rfl)):OpenOK P h f Vs hp Q:=by
 refine⟨λφ H qs C J=> ?_⟩;have hF:hp.length<=φ.length:=by rw[C.len];exact Xag _
 obtain⟨e,I,φ',tm',hp',h1,h2,R,h4⟩:=(hw H.length).out φ ⟨enterT 0 qs,H⟩ hF ⟨Zd2 J,C⟩;obtain⟨v,V,h5,h6,h7⟩:=ZnM hT R h4;refine⟨v,I.hp,φ',V,hp', ?_,h2.le (by rw[C.len];exact Xag _),R.hp,h6,h7⟩;refine Zs8 j hf U (by rw[<-J.len];exact hn) ?_;rw[h1,Xaa];exact h5
def ZjS {op:Op} {c:Call} {f:FuncId} {V W:SV} {k:SV->List SM->Prop} (j:op= .call c) (C:c.callee= .value (.func f)) (I:evL tm c.args.toList=some [V,W]) (J:h.opn f=false) (R:h.imp f=false) (U:h.mem f=false) (he:ZdB hp 40 V λv=>ZdB hp 40 W λw=>PureOK P h f [v,w] λY=>match ZsS Y with|true=>k Y hp|false=>False):opT P h T op tm hp k:=by subst j;simp only[opT,ZfU,I,C,Zb1,J,R,U,ZyL,Zds];exact he
def ZdR {x:SM}:nth (hp++ [x]) hp.length=some x:=by rw[ZaK,Xaz (Xag _),XbI];rfl
def ZCA {x y:SM}:(hp++ [x]).set hp.length y=hp++ [y]:=by rw[List.set_append_right _ _ (Xag _),XbI];rfl
end
def ZDU {ct:CT} (N:Nat) (l:List ct.D) (V:SV) (hp:List SM) (j:Bool):Prop:=V= .ref 0 0 N none/\hp=[.row ct l true]/\j=false
def Zqc {ct:CT} {N:Nat} {l:List ct.D} {V:SV} {hp:List SM} (hE:Ent 0 (Zch 0 (ZbS V)) hp [(0, .ref 0 0 N none)] [.row ct l true]) (j:(ZbS V).length=1) (C:ZbB V=true):ZyB (ZDU N l) V hp:=
 ⟨.ref 0 0 N none,[.row ct l true],hE,⟨j,C,Zln⟩,rfl,rfl,rfl⟩
def ZAM {F:Nat} {tm:TM} {hp:List SM} {i:Nat} {ct:CT} {l:List ct.D} {b:Bool} (h:hp[i]? =some (.row ct l b)):Ent F tm hp tm (hp.set i (.row ct l false)):=by
 have I:=(Xae.1 h).1;have old: ∀ {id:Nat} {sm:SM},(hp.set i (.row ct l false))[id]? =some sm->(id=i/\sm= .row ct l false)\/hp[id]? =some sm:=λ{id sm} hsm=>by by_cases e:i=id;subst e;rw[XaE I]at hsm;exact .inl ⟨rfl,(Xbc hsm).symm⟩;rw[XaD e]at hsm;exact .inr hsm
 refine⟨λφ st _ j=>⟨φ,Fr.refl F φ,j.tm,by rw[XaB];exact j.hp.len,λid sm o hsm U=> ?_,λid J sm aa a R h1 h2 h3 h4 h5 h6=> ?_⟩⟩;rcases old hsm with⟨rfl,rfl⟩|hsm;have C:=j.hp.row id _ o h U;cases o with|none=>simp only[RM]at C|-;exact C|some a=>simp only[RM]at C|-;obtain⟨es,m',g1,g2,_⟩:=C;exact⟨es,m',g1,g2,λh=>nomatch h⟩
 exact j.hp.row id sm o hsm U;have lv: ∀ {id:Nat} {sm:SM},live sm=true->(hp.set i (.row ct l false))[id]? =some sm-> ∃x,hp[id]? =some x/\live x=true:=λ{id sm} hl hsm=>by rcases old hsm with⟨rfl,rfl⟩|hsm;exact⟨_,h,rfl⟩;exact⟨_,hsm,hl⟩
 obtain⟨x,g1,g2⟩:=lv h3 h1;obtain⟨y,g3,g4⟩:=lv h4 h2;exact j.hp.inj id J x y a R g1 g3 g2 g4 h5 h6
def ZIp {hp:List SM} {n:Nat} {t:CT} {x:t.D} {r:Nat} {k:SV->Prop} (j:k (.box t x r)):ZdB hp (n+2) (.box t x r) k:=j
end Go.Tx
namespace Go.Proofs.YtplkkbcnilnfaaaGreatDoor
open Go.Am Go.Tx Ne Dv Go.Lib La
def Zry {n:Ne.Net} {k:Nat}:(fL n k).length=k:=by rw[fL,XaG,Xbe]
def ZsL {n:Ne.Net} {k:Nat}:(tL n k).length=k:=by rw[tL,XaG,Xbe]
def Zr0 {n:Ne.Net} {k:Nat}:(bL n k).length=k:=by rw[bL,XaG,Xbe]
def Zlr {n:Ne.Net} {k:Nat}:(cL n k).length=k:=by rw[cL,XaG,Xbe]
def ZCF {n:Ne.Net} {m k:Nat} (h:k<m):(fL n m)[k]? =some ((fBr n k:Nat):Int):=by rw[fL,XaC,Xbf h];rfl
def ZC6 {n:Ne.Net} {m k:Nat} (h:k<m):(tL n m)[k]? =some ((tBr n k:Nat):Int):=by rw[tL,XaC,Xbf h];rfl
def ZG1 {n:Ne.Net} {m k:Nat} (h:k<m):(bL n m)[k]? =some (Zbo (bBr n k)):=by rw[bL,XaC,Xbf h];rfl
def ZG7 {n:Ne.Net} {m k:Nat} (h:k<m):(cL n m)[k]? =some (Zbo (-sBr n k)):=by rw[cL,XaC,Xbf h];rfl
def ZEf {n:Ne.Net} {k:Nat}:fL n (k+1)=fL n k++ [((fBr n k:Nat):Int)]:=by rw[fL,List.range_succ,Xby];rfl
def ZCY {n:Ne.Net} {k:Nat}:tL n (k+1)=tL n k++ [((tBr n k:Nat):Int)]:=by rw[tL,List.range_succ,Xby];rfl
def ZC5 {n:Ne.Net} {k:Nat}:bL n (k+1)=bL n k++ [Zbo (bBr n k)]:=by rw[bL,List.range_succ,Xby];rfl
def ZCr {n:Ne.Net} {k:Nat}:cL n (k+1)=cL n k++ [Zbo (-sBr n k)]:=by rw[cL,List.range_succ,Xby];rfl
def Zzo {n:Ne.Net} {i:Nat}:frL n (i+1)=frL n i++(if hdB n i=true then[]else[(i:Int)]):=by rw[frL,List.range_succ,List.filter_append,Xby,frL];congr 1;rw[List.filter_cons];cases hdB n i<;>rfl
def ZG9 {n:Ne.Net}: ∀ {i:Nat},(frL n i).length<=i:=λ{i}=>by have:=List.length_filter_le (λj=> !hdB n j) (List.range i);rw[Xbe]at this;rw[frL,XaG];exact this
def mdL (n:Ne.Net) (b k j:Nat) (inv:SV):List SV:=[.v (.l IC) (ZcS n), .v (.l IC) (Zbp n), .ref b 0 k none, .ref (b+1) 0 k none, .ref (b+2) 0 k none, .ref (b+3) 0 k none, .ref (b+4) 0 j none,inv]
def mdR (n:Ne.Net) (k j:Nat):List SM:=[.row IC (fL n k) true, .row IC (tL n k) true, .row qct (bL n k) true, .row qct (cL n k) true, .row IC (frL n j) true]
def hM0 (n:Ne.Net) (inv:SV):List SM:= .cell (mdL n 1 n.brs.length (nF n) inv) true::mdR n n.brs.length (Zaf n)
def ZHp (n:Ne.Net) (inv:List (List qct.D)):mCT.D:=((ZcS n,Zbp n),(sub (fL n n.brs.length) 0 n.brs.length,(sub (tL n n.brs.length) 0 n.brs.length,(sub (bL n n.brs.length) 0 n.brs.length,(sub (cL n n.brs.length) 0 n.brs.length,(sub (frL n (Zaf n)) 0 (nF n),inv))))))
def ZxW (n:Ne.Net) (inv:List (List qct.D)):ZHp n inv=ZEj n inv:=by rw[ZHp,ZaM Zry,ZaM ZsL,ZaM Zr0,ZaM Zlr,ZaM (ZgO n)];rfl
def ZsI {n:Ne.Net} {ex:List SM} {k:SV->Prop} (j:k (.box mCT (ZEj n []) 0)):ZdB (hM0 n .nils++ex) 40 (.ptr 0 0 0) k:=by rw[<-ZxW]at j;exact⟨rfl,Xbj ((Xak _).trans Zry.symm),Xbj ((Xak _).trans ZsL.symm),Xbj ((Xak _).trans Zr0.symm),Xbj ((Xak _).trans Zlr.symm),Xbj ((Xak _).trans (ZgO n).symm),mCT,ZHp n [],rfl,j⟩
def hG (n:Ne.Net) (f:Mx) (ex:List SM):List SM:=hM0 n .nils++(.many (.l qct) (Zaz 7 (ZbE (nF n) (nF n) f)) true::(ZaU qct (ZbE (nF n) (nF n) f)++ex))
section
variable {n:Ne.Net} {f:Mx} {ex:List SM} {a:Nat}
def ZtK:(hG n f ex).length=7+nF n+ex.length:=by rw[hG,Xas,Xaq,Xas,Zaq,ZaA];show 6+(nF n+ex.length+1)=_;omega
def ZcV (j:a<nF n):nth (hG n f ex) (a+7)=some (.row qct (Za7 (nF n) (f a)) true):=by
 show nth (ZaU qct (ZbE (nF n) (nF n) f)++ex) a=_;have h:a<(ZbE (nF n) (nF n) f).length:=by rw[ZaA];exact j
 rw[ZaK,Xam (by rw[Zaq];exact h),ZcH h,Zct]
def ZEU {u:Nat->Rat} (j:a<nF n):(hG n f ex).set (a+7) (.row qct (Za7 (nF n) u) true)=hG n (λx=>if x=a then u else f x) ex:=by
 have h:a<(ZbE (nF n) (nF n) f).length:=by rw[ZaA];exact j
 show hM0 n .nils++(.many (.l qct) (Zaz 7 (ZbE (nF n) (nF n) f)) true::((ZaU qct (ZbE (nF n) (nF n) f)++ex).set a (.row qct (Za7 (nF n) u) true)))=_;rw[List.set_append_left _ _ (by rw[Zaq];exact h),Zj3,ZsD j,hG,Ztv (g:=λx=>if x=a then u else f x)]
def Zzj {c:SM}:nth (hG n f [c]) (7+nF n)=some c:=by rw[show 7+nF n=(ZaU qct (ZbE (nF n) (nF n) f)).length+7 by rw[Zaq,ZaA];omega];exact ZdR
def Zwg {c:SM}:hG n f []++ [c]=hG n f [c]:=by rw[hG,hG,Xa2,Xbs,Xa2,Xbl]
end
inductive KC|sw|br|ge|lo|st|tx
abbrev ctC:KC->CT
 | .sw=>ZlS
 | .br=>ZiZ
 | .ge=>gCT
 | .lo=>dCT
 | .st=>gCT
 | .tx=> .s
def fCl:KC->FuncId
 | .sw=>51
 | .br=>52
 | .ge=>53
 | .lo=>54
 | .st=>55
 | .tx=>17
def Zg8 (k:KC) (l:List (ctC k).D) (C:l.length<=1000):ImpOK prog Zaj (fCl k) [.v (.l (ctC k)) l] (λV hp I=>V= .ref 0 0 l.length none/\hp=[.row (ctC k) l true]/\I=false):=by
 cases k;all_goals
  first
  |refine Zbs Zab func51 (Zag Zab ?_)
  |refine Zbs Zab func52 (Zag Zab ?_)
  |refine Zbs Zab func53 (Zag Zab ?_)
  |refine Zbs Zab func54 (Zag Zab ?_)
  |refine Zbs Zab func55 (Zag Zab ?_)
  |refine Zbs Zab func17 (Zag Zab ?_)
  refine Xab (λh=>Xab (λ_=> ?_) (λh=>nomatch h)) (Xab (λh=>nomatch h) (λ_=> ?_))
  ·subst h
   refine⟨.ref 0 0 0 none,[.row _ [] true], ?_,⟨rfl,rfl,Zln⟩,rfl,rfl,rfl⟩
   exact ZaH rfl rfl ⟨⟨rfl,rfl,rfl⟩,trivial⟩ ⟨rfl,trivial⟩
  ·cases l with
   |nil=>
    refine Xab (Xap _) ?_
    refine⟨.ref 0 0 0 none,[.row _ [] true], ?_,⟨rfl,rfl,Zln⟩,rfl,rfl,rfl⟩
    exact ZaH rfl rfl ⟨⟨rfl,rfl,rfl⟩,trivial⟩ ⟨⟨rfl,λ_=>rfl⟩,trivial⟩
   |cons x r=>
    have J:(0+(r.length+1))*96<=140737488355328:=by rw[Xaq]at C;omega
    refine Xab (Xap _) ?_
    refine Xab (XaK (Nat.mul_le_mul_left _ (Xao rfl)) J) ?_
    refine⟨.ref 0 0 (r.length+1) none,[.row _ (x::r) true], ?_,⟨rfl,rfl,Zln⟩,rfl,rfl,rfl⟩
    have j:r.length+1=0+(r.length+1):=(Xak _).symm
    exact ZaH rfl rfl ⟨⟨rfl,j,j⟩,trivial⟩ ⟨⟨rfl,λ_=>rfl⟩,trivial⟩
def ZIS (b:Nat) (n:Ne.Net):List SV:=[.ref (b+0) 0 n.nodes.length none, .ref (b+1) 0 n.sws.length none, .ref (b+2) 0 n.brs.length none, .ref (b+3) 0 n.gens.length none, .ref (b+4) 0 n.loads.length none, .ref (b+5) 0 n.stores.length none]
def ZI8 (n:Ne.Net):List SM:=[.row .s n.nodes true, .row ZlS n.sws true, .row ZiZ n.brs true, .row gCT n.gens true, .row dCT n.loads true, .row gCT n.stores true]
abbrev ZCK:List SV:=[.nils, .nils, .nils, .nils, .nils, .nils]
def ZHf (n:Ne.Net) (j:big n=false):ImpOK prog Zaj 32 [.agg (ZbC n)] (λV hp C=>V= .agg (ZIS 0 n)/\hp=ZI8 n/\C=true):=by refine Zzh (fn:=Tryz.f32) (code:=bodyOf Tryz.f32) Zab (by kernel_rfl) func32 (by kernel_rfl) (Xao (by kernel_rfl)) ?_;simp only[big,Xbz,decide_eq_false_iff_not]at j;obtain⟨b1,b2,b3,b4,b5,b6⟩:=j;have I:ImpOK prog Zaj 17 [.v (.l .s) n.nodes] _:=Zg8 .tx n.nodes (by omega);have J:ImpOK prog Zaj 51 [.v (.l ZlS) n.sws] _:=Zg8 .sw n.sws (by omega);have R:ImpOK prog Zaj 52 [.v (.l ZiZ) n.brs] _:=Zg8 .br n.brs (by omega);have U:ImpOK prog Zaj 53 [.v (.l gCT) n.gens] _:=Zg8 .ge n.gens (by omega);have h5:ImpOK prog Zaj 54 [.v (.l dCT) n.loads] _:=Zg8 .lo n.loads (by omega);have h6:ImpOK prog Zaj 55 [.v (.l gCT) n.stores] _:=Zg8 .st n.stores (by omega);refine auG ?_;refine auH ?_;refine Zac rfl ((I.mono ?_));rintro _ _ _ ⟨rfl,rfl,rfl⟩;refine Zaa rfl rfl ?_;refine ZcW (hp':=[.cell (ZbC n) true, .cell ZCK true, .row .s n.nodes true]) rfl ?_;refine auM ?_;refine Zac rfl ((J.mono ?_));rintro _ _ _ ⟨rfl,rfl,rfl⟩;refine Zaa rfl rfl ?_;refine ZcW (hp':=[.cell (ZbC n) true, .cell ZCK true, .row .s n.nodes true, .row ZlS n.sws true]) rfl ?_;refine auM ?_;refine Zac rfl ((R.mono ?_));rintro _ _ _ ⟨rfl,rfl,rfl⟩;refine Zaa rfl rfl ?_;refine ZcW (hp':=[.cell (ZbC n) true, .cell ZCK true, .row .s n.nodes true, .row ZlS n.sws true, .row ZiZ n.brs true]) rfl ?_;refine auM ?_;refine Zac rfl ((U.mono ?_));rintro _ _ _ ⟨rfl,rfl,rfl⟩;refine Zaa rfl rfl ?_;refine ZcW (hp':=[.cell (ZbC n) true, .cell ZCK true, .row .s n.nodes true, .row ZlS n.sws true, .row ZiZ n.brs true, .row gCT n.gens true]) rfl ?_;refine auM ?_;refine Zac rfl ((h5.mono ?_));rintro _ _ _ ⟨rfl,rfl,rfl⟩;refine Zaa rfl rfl ?_;refine ZcW (hp':=[.cell (ZbC n) true, .cell ZCK true, .row .s n.nodes true, .row ZlS n.sws true, .row ZiZ n.brs true, .row gCT n.gens true, .row dCT n.loads true]) rfl ?_;refine auM ?_;refine Zac rfl ((h6.mono ?_));rintro _ _ _ ⟨rfl,rfl,rfl⟩;refine Zaa rfl rfl ?_;refine ZcW (hp':=[.cell (ZbC n) true, .cell ZCK true, .row .s n.nodes true, .row ZlS n.sws true, .row ZiZ n.brs true, .row gCT n.gens true, .row dCT n.loads true, .row gCT n.stores true]) rfl ?_;refine ZfJ ?_;refine Zac rfl (Xab rfl ?_);refine⟨rfl, ?_⟩;refine⟨.agg (ZIS 0 n),ZI8 n, ?_,rfl,rfl,rfl,rfl⟩;refine ZaH (σ:=[.is 2, .is 3, .is 4, .is 5, .is 6, .is 7]) rfl rfl ?_ ?_;exact⟨⟨⟨rfl,rfl,rfl⟩,⟨rfl,rfl,rfl⟩,⟨rfl,rfl,rfl⟩,⟨rfl,rfl,rfl⟩,⟨rfl,rfl,rfl⟩,⟨rfl,rfl,rfl⟩,trivial⟩,trivial⟩;exact⟨⟨rfl,id⟩,⟨rfl,id⟩,⟨rfl,id⟩,⟨rfl,id⟩,⟨rfl,id⟩,⟨rfl,id⟩,trivial⟩
def ZcU (n:Ne.Net) (on:List Txt):Ne.Net:={n with loads:=n.loads.filter λx=>ZdF x.1 on}
def hW (n:Ne.Net) (on:List Txt):List SM:=[.cell [.v (.l .s) on] true, .cell ZCK true, .row .s n.nodes true, .row ZlS n.sws true, .row ZiZ n.brs true, .row gCT n.gens true, .row dCT n.loads true, .row gCT n.stores true, .cell (ZIS 2 n) true]
def Ztb (n:Ne.Net) (on:List Txt) (j:big n=false) (I:on.length<=1000):PureOK prog Zaj 20 [.agg (ZbC n), .v (.l .s) on] (λV=>V= .agg (ZbC (ZcU n on))):=by
 refine Zgu (fn:=Tryz.f20) (code:=bodyOf Tryz.f20) Zab (by kernel_rfl) rfl func20 (by kernel_rfl) (Xao (by kernel_rfl)) ?_;have J:=ZHf n j;simp only[big,Xbz,decide_eq_false_iff_not]at j;obtain⟨b1,b2,b3,b4,b5,b6⟩:=j;refine Zah (Zag Zab ?_);refine auG ?_;refine Zbm [(3, .ptr 0 0 0),(4, .ptr 1 0 0),(5, .ptr 8 0 0)] (hW n on) (Zag Zab ?_) ?_;skip;refine auH ?_;refine Zac rfl ((J.mono ?_));rintro _ _ _ ⟨rfl,rfl,rfl⟩;refine Zaa rfl rfl ?_;refine ZIU ?_;refine Zac rfl (Xab rfl ?_);exact⟨rfl,Zbk [1,2,3,4,5,6,7,8,9] rfl ⟨rfl,rfl,rfl,rfl,rfl,rfl,rfl,rfl,rfl,trivial⟩ ⟨rfl,rfl,rfl,trivial⟩⟩;have hw:Wf (hW n on):=λm hm id hid=>by
  simp only[hW,Xau,Xav,or_false]at hm;rcases hm with rfl|rfl|rfl|rfl|rfl|rfl|rfl|rfl|rfl<;>first
   |exact absurd hid Xav
   |(have h:id∈ [2,3,4,5,6,7]:=hid
     simp only[Xau,Xav,or_false]at h
     show id<9
     omega)
 have hD:=ZIs 34 0 6 (λx=> !ZdF x.1 on) n.loads (by omega) (hW n on) hw rfl (by show 0<9;decide) (by decide) (by kernel_rfl) (λx R U _ h3=>ZCG R 0 on x I U h3);refine Zag Zab ?_;refine axT ?_;refine Zac rfl (hD.mono ?_);rintro _ hp' ⟨m,mm,C,ex,rfl,rfl,hs,hm,_⟩;refine Zaa rfl rfl ?_;refine axT ?_;have z: ∀ {α:Type} {l:List α},0+l.length<=l.length:=Xbj (Xak _)
 refine⟨rfl,z,z,z,z,by show 0+m<=C.length;omega,z, ?_⟩;show SV.agg [.v (.l .s) (sub n.nodes 0 n.nodes.length), .v (.l ZlS) (sub n.sws 0 n.sws.length), .v (.l ZiZ) (sub n.brs 0 n.brs.length), .v (.l gCT) (sub n.gens 0 n.gens.length), .v (.l dCT) (sub C 0 m), .v (.l gCT) (sub n.stores 0 n.stores.length)]=_;rw[ZaM rfl,ZaM rfl,ZaM rfl,ZaM rfl,ZaM rfl,hs];exact congrArg (λp=>SV.agg [.v (.l .s) n.nodes, .v (.l ZlS) n.sws, .v (.l ZiZ) n.brs, .v (.l gCT) n.gens, .v (.l dCT) (n.loads.filter p), .v (.l gCT) n.stores]) (funext λx=>Bool.not_not _)
def Zew (l:List (Txt×Int)) (s:Txt):Int:=l.foldl (λa p=>bif p.1==s then a+p.2 else a) 0
def Zt4 (l:List (Txt×Int)) (p:Txt×Int) (s:Txt):Zew (l++ [p]) s=bif p.1==s then Zew l s+p.2 else Zew l s:=by simp[Zew,List.foldl_append]
def ZrU (s:Txt): ∀ (l:List (Txt×Int)) (a:Int),(∀p∈l,-1000000<=p.2/\p.2<=1000000)->a-l.length*1000000<=l.foldl (λa p=>bif p.1==s then a+p.2 else a) a/\l.foldl (λa p=>bif p.1==s then a+p.2 else a) a<=a+l.length*1000000
 | [],a,_=>by simp
 |p::l,a,h=>by have hp:=h p Xai;have j:=ZrU s l (bif p.1==s then a+p.2 else a) λq C=>h q (Xaj _ C);rw[List.foldl_cons,Xaq];generalize l.foldl (λa p=>bif p.1==s then a+p.2 else a) (bif p.1==s then a+p.2 else a)=z at*;cases I:(p.1==s)<;>simp only[I,cond_true,cond_false]at j<;>omega
def Zvy {l:List (Txt×Int)} (s:Txt) (j:l.length<=1000) (h: ∀p∈l,-1000000<=p.2/\p.2<=1000000): -1000000000<=Zew l s/\Zew l s<=1000000000:=by have:=ZrU s l 0 h;unfold Zew;omega
def map_set {f:Txt->Int} {t:Txt} {v:Int}: ∀ {nodes:List Txt} (i:Nat),nodes.Nodup->t∈nodes-> ∃j,Zdg t nodes i=((i+j:Nat):Int)/\j<nodes.length/\(nodes.map f)[j]? =some (f t)/\(nodes.map f).set j v=nodes.map (λs=>bif t==s then v else f s)
 | [],i,_,h=>absurd h Xav
 |k::r,i,J,h=>by rw[Zdg];obtain⟨R,U⟩:=List.nodup_cons.1 J;cases C:(t==k)with|true=>have e:=eq_of_beq C;subst e;refine⟨0,rfl,Nat.zero_lt_succ _,rfl, ?_⟩;simp only[XaX,List.set_cons_zero,C,cond_true];congr 1;refine Xbd λs hs=> ?_;have:(t==s)=false:=(by rw[beq_eq_false_iff_ne];rintro rfl;exact R hs);rw[this];rfl|false=>have I:t≠k:=λe=>(by rw[e,beq_self_eq_true]at C;cases C);have ht:t∈r:=(Xau.1 h).resolve_left I;obtain⟨j,h1,h2,h3,h4⟩:=map_set (f:=f) (v:=v) (i+1) U ht;refine⟨j+1, ?_,Nat.succ_lt_succ h2,h3, ?_⟩;(·rw[cond_false,h1];congr 1;omega);simp only[XaX,List.set_cons_succ,h4,C,cond_false]
def ZA2 {α β j:Type} {f:α->β->j} {a:List α} {b:List β} {i:Nat} {x:α} {y:β} (C:a[i]? =some x) (I:b[i]? =some y):(List.zipWith f a b)[i]? =some (f x y):=by simp[List.getElem?_zipWith,C,I]
def ZkD {α:Type} {l:List α} {i:Nat} {x:α} (h:l[i]? =some x):l.take (i+1)=l.take i++ [x]:=by rw[List.take_add_one,h];rfl
def ZsK {l:List Bool} {i:Nat} {b:Bool} (h:l[i]? =some b):(l.drop i).all id=(b&&(l.drop (i+1)).all id):=by obtain⟨hi,rfl⟩:=Xae.1 h;rw[XaL hi,XbM];rfl
def okG (g:Ge) (x:Int):Bool:=bif decide (x=0)then true else bif decide (x<g.2.2.1)then false else !decide (x>g.2.2.2.1)
def okS (s:Sto) (x:Int):Bool:=bif decide (x< -s.2.2.1)then false else !decide (x>s.2.2.2.1)
def ZGR (l:List Ge) (v:List Int):Bool:=(List.zipWith okG l v).all id
def ZE0 (l:List Sto) (v:List Int):Bool:=(List.zipWith okS l v).all id
def itG (l:List Ge) (v:List Int):List (Txt×Int):=List.zipWith (λg x=>(g.2.1,x)) l v
def itS (l:List Sto) (v:List Int):List (Txt×Int):=List.zipWith (λg x=>(g.2.1,x)) l v
def itL (l:List Lo):List (Txt×Int):=l.map λx=>(x.2.1,-x.2.2)
def ZeI (p:Int):Bool:=bif decide (p< -100000)then true else decide (p>100000)
end Go.Proofs.YtplkkbcnilnfaaaGreatDoor
