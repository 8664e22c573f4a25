/- large.divWords: quotient and remainder. -/
import Derived.Test.YtpdhpbldangmbaaGreatDoorT13
set_option linter.all false
set_option maxHeartbeats 16000000
set_option maxRecDepth 100000
open Go.Proofs.Tryz
open Go.IntKind(i64 u32 u64)
namespace Go.Proofs.YtpdhpbldangmbaaGreatDoor
open Go.Am Go.Tx Dv
def ZmK (A B:Nat) (hB:0<B) (ai:(wOf A).length<=800000000) (aj:(wOf B).length<=800000000):PureOK prog Zai 117 [ZbC (wOf A),ZbC (wOf B)] (λV=> ∃q r,V= .tup [ZbC q,ZbC r]/\Wd q/\Wd r/\q.length<=800000001/\r.length<=800000001/\wv q=(A/B:Nat)/\wv r=(A % B:Nat)):=by
 let⟨a,ha⟩: ∃a,wOf A=a:=⟨_,rfl⟩
 let⟨b,hb⟩: ∃b,wOf B=b:=⟨_,rfl⟩
 have j:=ZAD A B oM oM;have hlen:(wOf A).length<(wOf B).length->A<B:=λh=>by rcases Xa8 A B with h'|h';exact h';have:=ZbT h';omega
 have C:=ha▸Zeh _;have I:=hb▸Zeh _;have J:wv a=A:=by rw[<-ha];exact ZcV _
 have U:wv b=B:=by rw[<-hb];exact ZcV _
 have ab:b≠ []:=by rintro rfl;have:=ZhC.1 hb;omega
 have ax:1<=b.length:=by cases b with|nil=>exact absurd rfl ab|cons x l=>simp
 have ak:=hb▸ZIv _;rw[ha]at j hlen ai|-;rw[hb]at j hlen aj|-;refine PureOK.as (Q:=λV=>(∃q r,V= .tup [ZbC q,ZbC r]/\Wd q/\Wd r/\q.length<=800000001/\r.length<=800000001/\wv q=(A/B:Nat)/\wv r=(A % B:Nat))\/(V= .tup [.nils,ZbC a]/\A<B)) ?_ ?_;rotate_left
 rintro V (h|⟨rfl,h⟩);exact⟨V,AsV.refl V,h⟩;exact⟨_,AsV.tup2 (AsV.nil _) (AsV.refl _),[],a,rfl,λx hx=>by simp at hx,C,sM,oM,by rw[Nat.div_eq_of_lt h];rfl,by rw[Xbz h,J]⟩;refine Zae Zaa func117 ?_;refine j.mono ?_;rintro _ ⟨r,rfl,al,ay⟩;refine Xaa (λh=> ?_) (λh=> ?_);have hr:=dT h;exact .inr ⟨rfl,al.1 hr⟩;have hr:=dF h;have az:B<=A:=oM;have a1:b.length<=a.length:=by rcases Xa8 a.length b.length with h|h;have:=hlen h;omega;exact h
 refine Xaa (λh1=> ?_) (λh1=> ?_);have an:b.length=1:=by have h':=dT h1;omega
 obtain⟨x,rfl⟩:=List.length_eq_one_iff.1 an;have hx:=I x sM;have ad:x=B:=by simpa[wv]using U
 refine Exists.intro x ⟨dC,rfl, ?_⟩;refine(Zwg a x C oM hx.2 oM).mono ?_;rintro _ ⟨q,rfl,q1,q2,q3⟩;have a6:0<=wv a % x:=Int.emod_nonneg _ oM;have aw:wv a % x<x:=Int.emod_lt_of_pos _ oM;refine Xaa (by show 0+1<=1;decide) ?_;refine .inl ⟨q,[wv a % x],rfl,q1, ?_,oM,sM, ?_, ?_⟩;intro y hy;rw[Xav.1 hy];omega;rw[q3,J,ad];rfl;rw[J,ad];simp only[wv];rw[Int.natCast_emod];omega;have a7:2<=b.length:=by have h':=dF h1;omega
 let⟨n,hn⟩: ∃n,b.length=n:=⟨_,rfl⟩
 let⟨m,hm⟩: ∃m,a.length=m:=⟨_,rfl⟩
 have ae:n-1<b.length:=oM;let⟨x,ex⟩: ∃x,b[n-1]=x:=⟨_,rfl⟩
 have hx:=I _ (XaI ae);have a8:x≠0:=by have:=ak ab;rw[List.getLast_eq_getElem]at this;rw[<-ex];simpa[hn]using this
 rw[ex]at hx;have gx:b[n-1]? =some x:=by rw[<-ex];exact Xac ae
 have af:i64.wrap ((b.length:Int)-1)=((n-1:Nat):Int):=by rw[Zap oM oM];omega
 refine Exists.intro x ⟨by rw[af];omega,by rw[af,Xab];exact gx, ?_⟩;refine(ZjZ x oM hx.2).mono ?_;rintro _ ⟨s,rfl,s1,s2,s3⟩;refine(Zqp a s C s1 oM).mono ?_;rintro _ _ _ ⟨u,rfl,rfl,rfl,u1,u2,u3⟩;refine(Zqp b s I s1 oM).mono ?_;rintro _ _ _ ⟨W,rfl,rfl,rfl,v1,v2,v3⟩;rw[hn]at v2;rw[hm]at u2;let⟨d1,d2,d3⟩:=Zxl oM hn I gx s1 s2 s3 v2 v1 v3
 have ag:i64.wrap (i64.wrap ((a.length:Int)-(b.length:Int))+1)=((m-n+1:Nat):Int):=by rw[Zap (x:=(a.length:Int)-(b.length:Int)) oM oM,Zap oM oM];omega
 have ah:((m-n+1:Nat):Int)-1=i64.wrap ((a.length:Int)-(b.length:Int)):=by rw[Zap oM oM];omega
 have w2: ∀x:Int,x=((m-n+1:Nat):Int)->0<=x/\x<=x/\(4:Int)*x<=281474976710656/\x<9223372036854775808:=λx hx=>oM
 have w3:m-n+1=(i64.wrap (i64.wrap ((a.length:Int)-(b.length:Int))+1)).toNat:=by rw[ag];omega
 have ao:0<=(n:Int)/\(n:Int)<=n/\(4:Int)*n<=281474976710656/\(n:Int)<9223372036854775808:=oM;refine Xaa ⟨XaG _,(by omega:(b.length:Int)<=((b.length+1:Nat):Int))⟩ ?_;refine Xaa (w2 _ ag) ?_;have aq:DInv W n m (wv u) (m-n+1,u,List.replicate (m-n+1) 0):=by refine⟨Xae _,u2,u1,sM, ?_, ?_, ?_⟩;show Wd ((List.replicate (m-n+1) (0:Int)).drop (m-n+1));rw[List.drop_of_length_le sM];intro y hy;simp at hy;show wv (u.drop (m-n+1))<wv (W.take n);rw[d1];exact ZzD hm C s1 u2 u1 u3 oM oM d3;show wv u=wv (W.take n)*(4294967296^(m-n+1)*wv ((List.replicate (m-n+1) (0:Int)).drop (m-n+1)))+wv u;rw[List.drop_of_length_le sM];simp[wv]
 refine((ZzA a b u W (List.replicate (m-n+1) 0) n m s (wv u) oM oM oM v2 v1 d2 aq).ent ?_).mono ?_;refine Zbx rfl rfl ?_ ?_;exact⟨rfl,rfl,⟨rfl,w3,w3⟩,rfl,⟨rfl,by rw[<-hm],by rw[<-hm]⟩,⟨rfl,(by show n=(b.length:Int).toNat-0;omega),(by show n+1=b.length+1-0;omega)⟩,(by show(n:Int)=(b.length:Int);omega),ah,trivial⟩;exact⟨⟨rfl,λ_=>rfl⟩,⟨rfl,λ_=>rfl⟩,⟨(by show List.replicate (m-n+1) (0:Int)=List.replicate _ 0;rw[<-w3]),λ_=>rfl⟩,trivial⟩;rintro _ _ _ ⟨rfl,u',q,X,Y,⟨i1,i2,i3,i4,i5,i6,i7⟩,rfl,rfl⟩;simp only[XaP,Int.pow_zero,Int.one_mul]at i1 i2 i3 i4 i5 i6 i7;refine Xaa ao ?_;refine((ZBt u' q n m s s1 oM oM i2 i3).ent ?_).mono ?_;exact eO;rintro _ _ _ ⟨rfl,r',X2,⟨r1,r2,r3⟩,rfl,rfl⟩;refine Xaa (by show 0+(m-n+1)<=q.length;omega) ?_;refine Xaa (by show 0+n<=r'.length;omega) ?_;have sq:sub q 0 (m-n+1)=q:=by rw[sub,XaP,Xax oM]
 have sr:sub r' 0 n=r':=by rw[sub,XaP,Xax oM]
 have ar:=wvn i3;let⟨z1,z2⟩:=Zwu (A:=(A:Int)) (B:=(B:Int)) (Q:=wv q) (R:=wv u') (s:=s) oM (by rw[<-J,<-U,<-u3,<-d1];exact i7) ar (by rw[<-U,<-d1];exact i6)
 have ba:wv (W.take n)<4294967296^n:=by have:=(Zbu (v1.take n)).2;rw[Xaz,XaU oM]at this;exact this
 have bb:=ZkF (n:=n) i3 oM;have aa:n<u'.length:=oM;have bc:=ZfQ aa;have bf:=i3 _ (XaI aa);have bg:=wvn (i3.drop (n+1));have au:u'[n]! =0:=by rw[getElem!_pos u' n aa];omega
 have av:wv (u'.take (n+1))=wv u':=by have:=seg u' (n+1) oM;have hz:wv (u'.drop (n+1))=0:=oM;rw[hz,Int.mul_zero]at this;omega
 rw[au,av,z2,Int.zero_ediv,Int.mul_zero,Int.add_zero]at r3;refine .inl ⟨sub q 0 (m-n+1),sub r' 0 n,rfl,by rw[sq];exact i5,by rw[sr];exact r2,by rw[sq];omega,by rw[sr];omega, ?_, ?_⟩;rw[sq,z1];rfl;rw[sr,r3];rfl
def ZCw {a out Zcz:List Int} {i k c x y v I} (ho:i+k<out.length) (hd:out.drop (i+k)=Zcz.drop (i+k)) (J:v=c+out[i+k]+x*y)
 (h:wv (out.take (i+k))+4294967296^(i+k)*c=wv (Zcz.take (i+k))+4294967296^i*(x*I)):
 wv ((out.set (i+k) (v % 4294967296)).take (i+k+1))+4294967296^(i+k+1)*(v/4294967296)=wv (Zcz.take (i+k+1))+4294967296^i*(x*(I+4294967296^k*y)):=by
 have j:Zcz[i+k]? =some out[i+k]:=by have:(out.drop (i+k))[0]? =(Zcz.drop (i+k))[0]? :=(by rw[hd]);grind
 let⟨C,j⟩:=Xaf.1 j
 rw[ZcS ho,ZeJ,Zcu C,j,Xaz,XaU (XbN ho),XbB];have R:wv [v % 4294967296]=v % 4294967296:=by simp[wv]
 grind
def ZDK (A B:SV) (out:List Int):List SM:=[.cell (Zbr A) true, .cell (Zbr B) true, .cell [.v .b false, .nils] true, .row (.i .u32) out true]
def ZK5 (a b:List Int) (n i:Nat) (x:Int) (s:Nat×Int×List Int):TM:=
 [(2, .ptr 0 0 0),(3, .ptr 1 0 0),(4, .ptr 2 0 0),(5, .ref 3 0 n none),(6, .v (.i .i64) (i:Int)),(7, .v (.i .u32) x),(8, .v (.i .u64) s.2.1),(20,ZbC a),(21, .v (.i .i64) (a.length:Int)),(22, .v (.i .i64) (i:Int)),(28,ZbC b),(29, .v (.i .i64) (b.length:Int)),(30, .v (.i .i64) (s.1:Int))]
def ZLq (A B:Int) (a b Zcz:List Int) (n i:Nat) (x:Int) (hb:Wd b) (hx:0<=x/\x<4294967296) (hn:Zcz.length=n) (hi:i+b.length<=n) (af:n<=2000000000) (ab:Wd Zcz):
 LoopOK prog Zai 0 ⟨83,0,77⟩ (ZaN Tryz.f83 7) (ZK5 a b n i x (0,0,Zcz)) (ZDK (IS A) (IS B) Zcz)
 (λe tm hp=>e= .exit 2/\ ∃c out X,0<=c/\c<4294967296/\out.length=n/\Wd out/\wv (out.take (i+b.length))+4294967296^(i+b.length)*c=wv (Zcz.take (i+b.length))+4294967296^i*(x*wv b)/\tm=(31,X)::ZK5 a b n i x (b.length,c,out)/\hp=ZDK (IS A) (IS B) out):=by
 refine Zaq Zaa rfl (ZK5 a b n i x) (λs=>ZDK (IS A) (IS B) s.2.2)
  (λs=>s.1<=b.length/\0<=s.2.1/\s.2.1<4294967296/\s.2.2.length=n/\Wd s.2.2/\s.2.2.drop (i+s.1)=Zcz.drop (i+s.1)/\wv (s.2.2.take (i+s.1))+4294967296^(i+s.1)*s.2.1=wv (Zcz.take (i+s.1))+4294967296^i*(x*wv (b.take s.1))) (λs=>b.length-s.1) ?_ (0,0,Zcz) ?_ Zaj
 rintro⟨k,c,out⟩ ⟨hk,R,U,hlen,C,hd,j⟩;simp only at hk R U hlen C hd j;refine Xaa (λh=> ?_) (λh=> ?_);have I:k<b.length:=by have:=dT h;simp only at this;omega
 have aa:=hb _ (XaI I);have ho:i+k<out.length:=oM;have ag:=C _ (XaI ho);have J:i64.wrap ((i:Int)+(k:Int))=((i+k:Nat):Int):=Zap oM oM;have et:(i64.wrap ((i:Int)+(k:Int))).toNat=i+k:=by rw[J];omega
 have e0:(0:Int)<=i64.wrap ((i:Int)+(k:Int)):=by rw[J];omega
 have e1:i64.wrap ((i:Int)+(k:Int))<(n:Int):=by rw[J];omega
 have ad:=XbJ hx.1 aa.1;have ae:x*b[k]<=4294967295*4294967295:=Int.mul_le_mul oM oM aa.1 oM;have ev:u64.wrap (c+u64.wrap (u64.wrap out[i+k]+u64.wrap (u64.wrap x*u64.wrap b[k])))=c+out[i+k]+x*b[k]:=by rw[Zav (x:=out[i+k]) oM oM,Zav (x:=x) oM oM,Zav (x:=b[k]) oM oM,Zav (x:=x*b[k]) oM oM,Zav (x:=out[i+k]+x*b[k]) oM oM,Zav oM oM];omega
 refine⟨b[k],XaG k,Xac I, ?_⟩;refine Xaa ⟨e0,e1⟩ ?_;refine Exists.intro (out[i+k]) (Xaa (by show out[0+(i64.wrap ((i:Int)+(k:Int))).toNat]? =_;rw[et,Xag];exact Xac ho) ?_);refine Xaa ⟨e0,e1⟩ ?_;refine Exists.intro (out[i+k]) (Xaa (by show out[0+(i64.wrap ((i:Int)+(k:Int))).toNat]? =_;rw[et,Xag];exact Xac ho) ?_);refine Xaa dC ?_;obtain⟨v,hv⟩: ∃v,v=c+out[i+k]+x*b[k]:=⟨_,rfl⟩;rw[<-hv]at ev;have ec:v/4294967296=(u64.wrap (c+u64.wrap (u64.wrap out[i+k]+u64.wrap (u64.wrap x*u64.wrap b[k])))).fdiv (2^min (Int.toNat 32) u64.bits):=by rw[ev,ZrC]
 have er:out.set (i+k) (v % 4294967296)=out.set (0+(i64.wrap ((i:Int)+(k:Int))).toNat) (u32.wrap (u64.wrap (c+u64.wrap (u64.wrap out[i+k]+u64.wrap (u64.wrap x*u64.wrap b[k]))))):=by rw[ev,et,Zbm,Xag]
 have wi:i64.wrap ((k:Int)+1)=((k+1:Nat):Int):=Zap oM oM;refine⟨(k+1,v/4294967296,out.set (i+k) (v % 4294967296)),⟨I, ?_, ?_, ?_, ?_, ?_, ?_⟩, ?_, ?_⟩;show 0<=v/4294967296;omega;show v/4294967296<4294967296;omega;show(out.set _ _).length=_;simpa using hlen;intro y hy;rcases Xbx hy with hy|rfl;exact C y hy;omega;show(out.set (i+k) _).drop (i+(k+1))=_;rw[XbA oM,show i+(k+1)=(i+k)+1 by omega,<-Xbl,hd,Xbl];show wv ((out.set (i+k) _).take (i+(k+1)))+_=_;rw[Zcu I];exact ZCw (a:=a) ho hd hv j;show b.length-(k+1)<b.length-k;omega;exact eO;have he:k=b.length:=by have:=dF h;simp only at this;omega
 subst he;rw[Xa1]at j;exact⟨rfl,c,out,_,R,U,hlen,C,j,rfl,rfl⟩;exact⟨Xak _,Xby _,by show(0:Int)<4294967296;decide,hn,ab,rfl,by simp[wv]⟩
def ZMH (a:List Int) (n:Nat) (s:Nat×List Int):TM:=
 [(2, .ptr 0 0 0),(3, .ptr 1 0 0),(4, .ptr 2 0 0),(5, .ref 3 0 n none),(20,ZbC a),(21, .v (.i .i64) (a.length:Int)),(22, .v (.i .i64) (s.1:Int))]
def ZsO (A B:Int) (hA:ln A<=400000000) (hB:ln B<=400000000):PureOK prog Zai 83 [IS A,IS B] (λV=>V=IS (A*B)):=by
 refine Zae Zaa func83 ?_;let⟨a,ha⟩: ∃a,wOf A.natAbs=a:=⟨_,rfl⟩
 let⟨b,J⟩: ∃b,wOf B.natAbs=b:=⟨_,rfl⟩
 have al:a.length<=400000000:=by rw[<-ha];exact hA
 have an:b.length<=400000000:=by rw[<-J];exact hB
 have ag:=ha▸Zeh _;have ah:=J▸Zeh _;have ai:wv a=A.natAbs:=by rw[<-ha];exact ZcV _
 have aj:wv b=B.natAbs:=by rw[<-J];exact ZcV _
 have ea:IS A= .agg [.v .b (decide (A<0)),ZbC a]:=by rw[<-ha]
 have eb:IS B= .agg [.v .b (decide (B<0)),ZbC b]:=by rw[<-J]
 rw[ea,eb];refine Xaa rfl ?_;refine Xaa rfl ?_;have w1:i64.wrap ((a.length:Int)+(b.length:Int))=((a.length+b.length:Nat):Int):=Zap oM oM;have w3:a.length+b.length=(i64.wrap ((a.length:Int)+(b.length:Int))).toNat:=by rw[w1];omega
 have w2: ∀x:Int,x=((a.length+b.length:Nat):Int)->0<=x/\x<=x/\(4:Int)*x<=281474976710656/\x<9223372036854775808:=λx hx=>oM
 have w4:List.replicate (a.length+b.length) (0:Int)=List.replicate (i64.wrap ((a.length:Int)+(b.length:Int))).toNat 0:=by rw[<-w3]
 refine Xaa (w2 _ w1) ?_;refine Xaa rfl ?_;refine Zaq Zaa rfl (ZMH a (a.length+b.length)) (λs=>ZDK (IS A) (IS B) s.2)
  (λs=>s.1<=a.length/\s.2.length=a.length+b.length/\Wd s.2/\wv (s.2.take (s.1+b.length))=wv (a.take s.1)*wv b) (λs=>a.length-s.1) ?_ (0,List.replicate (a.length+b.length) 0) ?_ ?_
 rintro⟨i,out⟩ ⟨hi,hlen,R,C⟩;simp only at hi hlen R C;refine Xaa (λh=> ?_) (λh=> ?_);have I:i<a.length:=by have:=dT h;simp only at this;omega
 have ak:=ag _ (XaI I);refine⟨a[i],XaG i,Xac I, ?_⟩;refine Xaa rfl ?_;refine((ZLq A B a b out (a.length+b.length) i a[i] ah ak hlen oM oM R).ent ?_).mono ?_;refine Zbx rfl rfl ?_ ?_;exact⟨⟨rfl,rfl⟩,⟨rfl,rfl⟩,⟨rfl,rfl⟩,⟨rfl,rfl,rfl⟩,rfl,rfl,rfl,rfl,rfl,rfl,J.symm,(by show((b.length:Nat):Int)=_;rw[<-J]),rfl,trivial⟩;exact⟨⟨⟨rfl,rfl,trivial⟩,λ_=>rfl⟩,⟨⟨rfl,rfl,trivial⟩,λ_=>rfl⟩,⟨⟨rfl,trivial,trivial⟩,λ_=>rfl⟩,⟨rfl,λ_=>rfl⟩,trivial⟩;rintro _ _ _ ⟨rfl,c,j,X,ad,ae,U,af,aa,rfl,rfl⟩;have ho:i+b.length<j.length:=oM;have ab:i64.wrap ((i:Int)+(((wOf B.natAbs).length:Nat):Int))=((i+b.length:Nat):Int):=by rw[J];exact Zap oM oM
 have et:(i64.wrap ((i:Int)+(((wOf B.natAbs).length:Nat):Int))).toNat=i+b.length:=by rw[ab];omega
 refine Xaa rfl ?_;refine Xaa ⟨(by rw[ab];omega),(by rw[ab];omega)⟩ ?_;refine Exists.intro (j[i+b.length]) (Xaa (by show j[0+(i64.wrap ((i:Int)+(((wOf B.natAbs).length:Nat):Int))).toNat]? =_;rw[et,Xag];exact Xac ho) ?_);have er:j.set (i+b.length) c=j.set (0+(i64.wrap ((i:Int)+(((wOf B.natAbs).length:Nat):Int))).toNat) (u32.wrap c):=by rw[et,Zbm,Xag,Int.emod_eq_of_lt ad ae]
 have wi:i64.wrap ((i:Int)+1)=((i+1:Nat):Int):=Zap oM oM;refine⟨(i+1,j.set (i+b.length) c),⟨I, ?_, ?_, ?_⟩, ?_, ?_⟩;show(j.set _ _).length=_;simpa using U;intro y hy;rcases Xbx hy with hy|rfl;exact af y hy;exact⟨ad,ae⟩;show wv ((j.set (i+b.length) c).take (i+1+b.length))=wv (a.take (i+1))*wv b;rw[show i+1+b.length=i+b.length+1 by omega,ZcS ho,ZeJ,Xaz,XaU (XbN ho),Zcu I,Int.add_mul,<-C,Int.mul_assoc,<-aa];simp[wv];show a.length-(i+1)<a.length-i;omega;exact eO;have he:i=a.length:=by have:=dF h;simp only at this;omega
 subst he;rw[Xa1,Xax oM]at C;refine Xaa rfl ?_;refine Xaa rfl ?_;refine Xaa (by show 0+(a.length+b.length)<=out.length;omega) ?_;have hs:sub out 0 (a.length+b.length)=out:=by rw[sub,XaP,Xax oM]
 refine(ZfC (!(decide (A<0)==decide (B<0))) (sub out 0 (a.length+b.length)) (by rw[hs];exact R) (by rw[hs];omega)).mono ?_;rintro _ rfl;refine⟨rfl,rfl, ?_⟩;have:sg (!(decide (A<0)==decide (B<0))) (wv (sub out 0 (a.length+b.length)))=A*B:=by rw[hs,C,ai,aj];by_cases h0:A<0<;>by_cases h1:B<0;rw[decide_eq_true h0,decide_eq_true h1];show(A.natAbs:Int)*B.natAbs=A*B;rw[Int.ofNat_natAbs_of_nonpos oM,Int.ofNat_natAbs_of_nonpos oM,Int.neg_mul_neg];rw[decide_eq_true h0,decide_eq_false h1];show-((A.natAbs:Int)*B.natAbs)=A*B;rw[Int.ofNat_natAbs_of_nonpos oM,Int.natAbs_of_nonneg oM,Int.neg_mul,Int.neg_neg];rw[decide_eq_false h0,decide_eq_true h1];show-((A.natAbs:Int)*B.natAbs)=A*B;rw[Int.natAbs_of_nonneg oM,Int.ofNat_natAbs_of_nonpos oM,Int.mul_neg,Int.neg_neg];rw[decide_eq_false h0,decide_eq_false h1];show(A.natAbs:Int)*B.natAbs=A*B;rw[Int.natAbs_of_nonneg oM,Int.natAbs_of_nonneg oM]
 show IS (sg (!(decide (A<0)==decide (B<0))) (wv (sub out 0 (a.length+b.length))))=IS (A*B);rw[this];refine⟨Xak _,sM,λx hx=> ?_, ?_⟩;have:=List.eq_of_mem_replicate hx;rw[this];decide;show wv ((List.replicate (a.length+b.length) 0).take (0+b.length))=_;rw[List.take_replicate];have: ∀k,wv (List.replicate k 0)=0:=by intro k;induction k with|zero=>rfl|succ k ih=>rw[List.replicate_succ,wv,ih];rfl
 rw[this];simp[wv];exact eO
def ZyX (n:Nat):IS (n:Int)= .agg [.v .b false,ZbC (wOf n)]:=by grind
def ZrV (a:List Int) (hl:a.length<=10000000000):PureOK prog Zai 118 [ZbC a] (λV=>V=ZbC a):=by
 refine PureOK.as (Q:=λV=>V=ZbC a\/(V= .nils/\a=[])) ?_ ?_;rotate_left
 rintro V (h|⟨rfl,rfl⟩);exact⟨V,AsV.refl V,h⟩;exact⟨_,AsV.nil _,rfl⟩;refine Zae Zaa func118 ?_;refine Xaa (λj=> ?_) ?_;refine Xaa (λ_=> ?_) (λh=>nomatch h);exact .inr ⟨rfl,j⟩;refine Xaa (λh=>nomatch h) (λ_=> ?_);refine Xaa (by show 0+0<=0;decide) ?_;cases a with|nil=>refine Xaa (by show 0+0<=0;decide) ?_;exact .inl rfl|cons x r=>refine Xaa (by show(0+(r.length+1))*4<=_;simp at hl;omega) ?_;refine Xaa (by show 0+(0+(r.length+1))<=(x::r).length;simp) ?_;refine .inl (congrArg ZbC ?_);show sub (sub [] 0 0++x::r) 0 (0+(r.length+1))=x::r;simp[sub]
def ZM1 a b (I:0<b) (h: ¬ (sg (decide (a<0)) (a.natAbs % b.natAbs:Int)<0)):sg (decide (a<0)) ((a.natAbs/b.natAbs:Nat):Int)=a/b/\sg (decide (a<0)) ((a.natAbs % b.natAbs:Nat):Int)=a % b:=by
 obtain⟨n,rfl⟩: ∃n:Nat,b=n:=⟨b.toNat,oM⟩;rw[Xa3]at h|-;by_cases j:a<0;obtain⟨m,rfl⟩: ∃m:Nat,a= -(m:Int):=⟨(-a).toNat,oM⟩;rw[decide_eq_true j,Int.natAbs_neg,Xa3]at h|-;simp only[sg]at h|-;have C:m % n=0:=oM;have e:=Nat.div_add_mod m n;rw[C,Nat.add_zero]at e;have em: -(m:Int)=(n:Int)* -((m/n:Nat):Int):=by rw[Int.mul_neg,<-Xa6,e]
 constructor;rw[em,Int.mul_ediv_cancel_left _ oM];simp_all;obtain⟨m,rfl⟩: ∃m:Nat,a=m:=⟨a.toNat,oM⟩;exact⟨rfl,rfl⟩
def ZMm a b (C:0<b) (h:sg (decide (a<0)) (a.natAbs % b.natAbs:Int)<0):sg (decide (a<0)) ((a.natAbs/b.natAbs:Nat):Int)-1=a/b/\sg (decide (a<0)) ((a.natAbs % b.natAbs:Nat):Int)+b=a % b:=by
 obtain⟨n,rfl⟩: ∃n:Nat,b=n:=⟨b.toNat,oM⟩;rw[Xa3]at h|-;by_cases j:a<0;obtain⟨m,rfl⟩: ∃m:Nat,a= -(m:Int):=⟨(-a).toNat,oM⟩;rw[decide_eq_true j,Int.natAbs_neg,Xa3]at h|-;simp only[sg]at h|-;have I:m % n<n:=Nat.mod_lt _ oM;have e:=Nat.div_add_mod m n;have em: -(m:Int)=(-((m % n:Nat):Int)+n)+(n:Int)*(-(m/n:Int)-1):=by grind
 constructor;rw[em,Int.add_mul_ediv_left _ _ oM,Int.ediv_eq_zero_of_lt oM oM];omega;rw[em,Int.add_mul_emod_self_left,Int.emod_eq_of_lt oM oM];rw[decide_eq_false j]at h;simp[sg]at h;omega
theorem ZuT m x:(sg m x).natAbs=x.natAbs:=by cases m<;>simp[sg]
def dmH (a b q r:Int):List SM:=[.cell [.v .b (decide (a<0)),ZbC (wOf a.natAbs)] true, .cell [.v .b (decide (b<0)),ZbC (wOf b.natAbs)] true, .cell [.v .b false, .nils] true, .cell [.v .b false, .nils] true, .cell [.v .b (decide (q<0)),ZbC (wOf q.natAbs)] true, .cell [.v .b (decide (r<0)),ZbC (wOf r.natAbs)] true]
def Zva (a b:Int) (hb:0<b) (aa:ln a<=700000000) (ab:ln b<=700000000):PureOK prog Zai 100 [IS a,IS b] (λV=>V= .tup [IS (a/b),IS (a % b)]):=by
 have ad:(wOf a.natAbs).length<=700000000:=aa;have ae:(wOf b.natAbs).length<=700000000:=ab;refine Zae Zaa func100 ?_;refine Xaa rfl ?_;refine Xaa rfl ?_;refine(ZmK a.natAbs b.natAbs (by omega) (by omega) (by omega)).mono ?_;rintro _ ⟨C,j,rfl,q1,r1,q2,r2,q3,I⟩;refine Xaa rfl ?_;refine(ZrV C (by omega)).mono ?_;rintro _ rfl;refine(ZfC _ C q1 (by omega)).mono ?_;rintro _ rfl;refine Xaa rfl ?_;refine(ZrV j (by omega)).mono ?_;rintro _ rfl;refine(ZfC _ j r1 (by omega)).mono ?_;rintro _ rfl;obtain⟨Q,hQ⟩: ∃Q,sg (decide (a<0)) (wv C)=Q:=⟨_,rfl⟩;obtain⟨R,hR⟩: ∃R,sg (decide (a<0)) (wv j)=R:=⟨_,rfl⟩;refine Xaa rfl ?_;refine Xaa rfl ?_;refine Xaa rfl ?_;have J:=hQ;have U:=hR;rw[q3]at J;rw[I]at U;refine Xaa (λh=> ?_) (λh=> ?_);have h':sg (decide (a<0)) (wv j)<0:=dT h;obtain⟨e1,e2⟩:=ZMm a b hb (by rw[I]at h';exact h');refine Zqe (dmH a b (sg (decide (a<0)) (wv C)) (sg (decide (a<0)) (wv j))) rfl ?_;have lq:ln Q<=700000001:=by rw[<-J];refine XaK (ZlU (b:=a) ?_) (by omega);have:=Nat.div_le_self a.natAbs b.natAbs;rw[ZuT,Xa3];omega
 have lr:ln R<=700000001:=by rw[<-U];refine XaK (ZlU (b:=a) ?_) (by omega);have:=Nat.mod_le a.natAbs b.natAbs;rw[ZuT,Xa3];omega
 refine Xaa rfl ?_;refine(ZIP 1 (by decide) (by decide)).mono ?_;rintro _ rfl;have l1:ln 1<=2:=ZoS (by decide);refine(ZLk (sg (decide (a<0)) (wv C)) 1 (by rw[hQ];omega) (by omega)).mono ?_;rintro _ rfl;refine Xaa rfl ?_;refine Xaa rfl ?_;refine(ZG4 (sg (decide (a<0)) (wv j)) b (by rw[hR];omega) (by omega)).mono ?_;rintro _ rfl;refine Xaa rfl ?_;refine Xaa rfl ?_;refine Zqe (dmH a b (sg (decide (a<0)) (wv C)-1) (sg (decide (a<0)) (wv j)+b)) rfl ?_;refine⟨rfl,rfl,rfl,rfl,rfl,rfl, ?_⟩;show SV.tup [IS (sg (decide (a<0)) (wv C)-1),IS (sg (decide (a<0)) (wv j)+b)]=_;rw[q3,I,e1,e2];have h': ¬sg (decide (a<0)) (wv j)<0:=dF h;obtain⟨e1,e2⟩:=ZM1 a b hb (by rw[I]at h';exact h');refine⟨rfl,rfl,rfl,rfl,rfl,rfl, ?_⟩;show SV.tup [IS (sg (decide (a<0)) (wv C)),IS (sg (decide (a<0)) (wv j))]=_;rw[q3,I,e1,e2]
def ZGf (n:Nat):PureOK prog Zai 116 [.agg [.v .b false,ZbC (wOf n)]] (λV=>V= .v (.i .i64) ((n:Int)).sign):=by rw[<-ZyX];exact ZEf n
def ZMk (t:Nat×Nat):List SM:=[.cell [.v .b false,ZbC (wOf t.1)] true, .cell [.v .b false,ZbC (wOf t.2)] true, .cell [.v .b false, .nils] true]
def ZLf (a b:Int) (C:ln a<=700000000) (I:ln b<=700000000):PureOK prog Zai 99 [IS a,IS b] (λV=>V=IS (Int.gcd a b:Int)):=by
 refine Zae Zaa func99 ?_;refine Xaa rfl ?_;refine Xaa rfl ?_;refine Zaq Zaa rfl (λ_=> [(2, .ptr 0 0 0),(3, .ptr 1 0 0),(4, .ptr 2 0 0)]) ZMk
  (λt=>(wOf t.1).length<=700000000/\(wOf t.2).length<=700000000/\Nat.gcd t.1 t.2=Int.gcd a b) (λt=>t.2) ?_ (a.natAbs,b.natAbs) ⟨C,I,rfl⟩ ?_
 rintro⟨A,B⟩ ⟨h1,J,j⟩;simp only at h1 J j;refine Xaa rfl ?_;refine(ZGf B).mono ?_;rintro _ rfl;refine Xaa (λh=> ?_) (λh=> ?_);have hB:0<B:=by have R:=h;rcases Nat.eq_zero_or_pos B with h0|h0;subst h0;simp at R;exact h0
 refine Xaa rfl ?_;refine Xaa rfl ?_;refine(ZmK A B hB oM oM).mono ?_;rintro _ ⟨q,r,rfl,q1,r1,q2,r2,q3,r3⟩;refine Xaa rfl ?_;refine(ZrV r oM).mono ?_;rintro _ rfl;refine(ZfC false r r1 oM).mono ?_;rintro _ rfl;refine Xaa rfl ?_;refine Xaa rfl ?_;have U:sg false (wv r)=((A % B:Nat):Int):=r3;have hm:A % B<B:=Nat.mod_lt _ hB;refine⟨(B,A % B),⟨J,XaK (ZbT (XbN hm)) J, ?_⟩,hm, ?_⟩;show Nat.gcd B (A % B)=_;rw[<-j,Nat.gcd_comm A B,Nat.gcd_rec B A,Nat.gcd_comm];have e1:false=decide (sg false (wv r)<0):=by rw[U];exact(decide_eq_false oM).symm
 have e2:wOf (A % B)=wOf (sg false (wv r)).natAbs:=by rw[U,Xa3]
 exact eO;have hB:B=0:=by have R:=h;simpa using R
 subst hB;refine⟨rfl,rfl,rfl, ?_⟩;rw[Nat.gcd_zero_right]at j;show SV.agg [.v .b false,ZbC (wOf A)]=_;rw[<-j,ZyX];exact eO
def ZkE: ∀ {a:List Int} {es:List (List PV)},Wd a->All2 (RR (.i .u32)) a es->ZfZ es=some a
 | [],[],_,_=>rfl
 |x::a,c::es,hw,h=>by obtain⟨j,I⟩:=h;simp only[RR]at j;subst j;have C:=hw x Xah;have:(decide (0<=x)&&decide (x<4294967296))=true:=(by rw[decide_eq_true C.1,decide_eq_true C.2];rfl);simp only[ZfZ,this,ZkE (λy J=>hw y (Xai _ J)) I,Xau]
def ZzY (v:Int):PureOK prog Zai 109 [IS v] (λV=>V= .tup [.v .s (ZeV (decide (v<0)) (wOf v.natAbs)), .v .b (ZeA (wOf v.natAbs))]):=by
 refine⟨λJ j=> ?_⟩;let⟨a,I⟩: ∃a,wOf v.natAbs=a:=⟨_,rfl⟩
 have hw:=I▸Zeh _;change RL [] [.agg [.v .b (decide (v<0)),ZbC (wOf v.natAbs)]] J at j;rw[I]at j|-;simp only[RL,RV,RR,List.cons.injEq,and_true]at j;obtain⟨_,_,rfl,⟨_,rfl,_,_,rfl,rfl,_,_,rfl,R,rfl⟩,rfl⟩:=j;refine⟨.tup [.str ⟨(ZeV (decide (v<0)) a).toArray⟩, .bool (ZeA a)],_, ?_, ?_,rfl⟩;show(textG _).bind (λv=>exp ZaZ [] v)=_;rcases R with⟨rfl,rfl⟩|⟨es,rfl,C⟩;rfl;simp only[textG,ZkE hw C,Xau];rfl;simp only[RV,RL,RR];exact⟨_,rfl,_,_,rfl,rfl,_,_,rfl,rfl,rfl⟩
open Go.Lib
abbrev QS (n d:Int):SV:= .agg [.v .b (decide (n<0)),ZbC (wOf n.natAbs), .v .b (decide (d<0)),ZbC (wOf d.natAbs)]
def Zn9 (n:Int) (j: -9223372036854775808<=n) (C:n<9223372036854775808):PureOK prog Zai 61 [.v (.i .i64) n] (λV=>V=QS n 1):=by refine Zae Zaa func61 ?_;refine(ZIP n j C).mono ?_;rintro _ rfl;refine(ZIP 1 (by decide) (by decide)).mono ?_;rintro _ rfl;refine Xaa rfl ?_;first|rfl|exact⟨rfl,rfl⟩|exact⟨rfl,rfl,rfl⟩|exact⟨rfl,rfl,rfl,rfl⟩
def ZHT (n d:Int) (hl:ln n<=1000000000):PureOK prog Zai 87 [QS n d] (λV=>V=QS (-n) d):=by refine Zae Zaa func87 ?_;refine Xaa rfl ?_;refine(ZCJ n hl).mono ?_;rintro _ rfl;refine Xaa rfl ?_;refine Xaa rfl ?_;first|rfl|exact⟨rfl,rfl⟩|exact⟨rfl,rfl,rfl⟩|exact⟨rfl,rfl,rfl,rfl⟩
end Go.Proofs.YtpdhpbldangmbaaGreatDoor
namespace Dv
open Go Go.Am Go.Lib
def cnB (s:List UInt8):Bool:=ZJj s&&(!s.isEmpty&& !(decide (1<s.length)&&s.head? ==some 48))
def ZDa {s:List UInt8}:ZJj s=true<->Dg s:=by unfold ZJj;rw[XaH];refine forall_congr' λc=>forall_congr' λ_=> ?_;simp_all
def ZGr {s:List UInt8}:cnB s=true<->Cn s:=by simp only[cnB,Xas,ZDa,XbM,Bool.and_eq_false_iff,decide_eq_false_iff_not,beq_eq_false_iff_ne,List.isEmpty_eq_false_iff,Cn,ne_eq];grind
def ZFS (n:Nat):ZeA (wOf n)=Nat.ble (decDigits n).length 2000/\(Nat.ble (decDigits n).length 2000=true-> ∀m,ZeV m (wOf n)=(match decide (n=0),m with|false,true=> [45]|_,_=> [])++decDigits n):=by
 by_cases R:n=0;subst R;rw[ZgD,decDigits_one (by decide)];refine⟨rfl,λ_ m=> ?_⟩;cases m<;>rfl;have I:(wOf n).isEmpty=false:=by rw[List.isEmpty_eq_false_iff,ne_eq,ZhC];exact R
 have U:decide (n=0)=false:=decide_eq_false R;by_cases hl:(wOf n).length<=210;have J:Nat.ble (wOf n).length 210=true:=Nat.ble_eq_true_of_le hl;have aa:n<10^2100:=Nat.lt_trans (Zeu.1 hl) (by decide+kernel);have hv:(wv (wOf n)).toNat=n:=by rw[ZcV];omega
 have C:ZCN 2100 n=decDigits n:=ZsY 2100 n (by decide) aa;refine⟨by simp only[ZeA,I,J,hv,C],λ_ m=> ?_⟩;simp only[ZeV,I,J,hv,C,U];cases m<;>rfl;have J:Nat.ble (wOf n).length 210=false:=by cases J:Nat.ble (wOf n).length 210 with|false=>rfl|true=>exact absurd (Xam J) hl
 have ab:10^2000<=n:=by rcases Xa8 n (10^2000)with h|h;exact absurd (Zeu.2 (Nat.lt_trans h (by decide+kernel))) hl;exact h
 have j:Nat.ble (decDigits n).length 2000=false:=by cases j:Nat.ble (decDigits n).length 2000 with|false=>rfl|true=>have:=(Zcp (by decide)).1 (Xam j);omega
 exact⟨by simp only[ZeA,I,J,j],λh=>by rw[j]at h;cases h⟩
theorem ZqO: ∀ {s:List UInt8},Dg s-> ∀i,Zo8 s 47 i= -1
 | [],_,_=>rfl
 |b::l,h,i=>by have j:=(h b Xah).1;have hf:Nat.beq b.toNat (47:UInt8).toNat=false:=(by cases C:Nat.beq b.toNat (47:UInt8).toNat with|false=>rfl|true=>rw[Xay C]at j;exact absurd j (by decide));rw[Zo8,hf];exact ZqO (λc I=>h c (Xai _ I)) _
def ZuM: ∀ {s:List UInt8},Dg s-> ∀ (t:List UInt8) (i:Nat),Zo8 (s++47::t) 47 i=((i+s.length:Nat):Int)
 | [],_,t,i=>by rw[Xba,Zo8];rfl
 |b::l,h,t,i=>by have j:=(h b Xah).1;have hf:Nat.beq b.toNat (47:UInt8).toNat=false:=(by cases C:Nat.beq b.toNat (47:UInt8).toNat with|false=>rfl|true=>rw[Xay C]at j;exact absurd j (by decide));rw[Xa5,Zo8,hf];simp only;rw[ZuM (λc I=>h c (Xai _ I)) t (i+1),Xao];congr 1;omega
theorem ZqQ {s:List UInt8} (h:Zo8 s 47 0= -1):ZD6 s 47=(s,[],false):=by rw[ZD6,h];rfl
def ZAw {s:List UInt8} {k:Nat} (h:Zo8 s 47 0=(k:Int)):ZD6 s 47=(s.take k,s.drop (k+1),true):=by grind [ZD6,XaG,Xab]
def mns (m:Bool) (s:List UInt8):List UInt8:=match m with
 |true=>45::s
 |false=>s
def ZfL (d:Nat):List UInt8:=match decide (d=1)with
 |true=> []
 |false=>47::decDigits d
def Zbh (q:Rat):List UInt8:=mns (decide (q.num<0)) (decDigits q.num.natAbs++ZfL q.den)
def ZAQ (q:Rat):Bool:=Nat.ble (decDigits q.num.natAbs).length 2000&&Nat.ble (decDigits q.den).length 2000
def ZKh (a:List UInt8):Bool:=a.head? ==some 45
def ZCL (a:List UInt8):List UInt8:=match ZKh a with
 |true=>a.drop 1
 |false=>a
def ZLX (a:List UInt8):List UInt8:=(ZD6 (ZCL a) 47).1
def ZL2 (a:List UInt8):List UInt8:=(ZD6 (ZCL a) 47).2.1
def rIs (a:List UInt8):Bool:=(ZD6 (ZCL a) 47).2.2
def Zuz {m:Bool} {s:List UInt8} (h:s.head?≠some 45):ZKh (mns m s)=m:=by cases m with|true=>rfl|false=>simpa[ZKh,mns]using h
def ZBl {m:Bool} {s:List UInt8} (h:s.head?≠some 45):ZCL (mns m s)=s:=by rw[ZCL,Zuz h];cases m<;>rfl
def ZFg {s t:List UInt8} (h:Dg s) (j:s≠ []):(s++t).head?≠some 45:=by cases s with|nil=>exact absurd rfl j|cons b l=>intro he;have C:=(h b Xah).1;simp_all
def Zlw (n d:Nat):(decDigits n++ZfL d).head?≠some 45:=ZFg (Zbj n) (ZfV n)
theorem Zkh (n d:Nat):ZD6 (decDigits n++ZfL d) 47=match decide (d=1)with
 |true=>(decDigits n,[],false)
 |false=>(decDigits n,decDigits d,true):=by unfold ZfL;cases decide (d=1)with|true=>grind [ZqQ,ZqO,Zbj]|false=>have h:=ZuM (Zbj n) (decDigits d) 0;rw[Xag]at h;rw[ZAw h,List.take_left',List.drop_append];simp;rfl
theorem Zik (q:Rat):ZCL (Zbh q)=decDigits q.num.natAbs++ZfL q.den:=ZBl (Zlw _ _)
theorem Zqk (q:Rat):ZKh (Zbh q)=decide (q.num<0):=Zuz (Zlw _ _)
theorem ZxC (q:Rat):ZLX (Zbh q)=decDigits q.num.natAbs:=by grind [ZLX,Zik,Zkh]
theorem ZBa (q:Rat):rIs (Zbh q)= !decide (q.den=1):=by grind [rIs,Zik,Zkh]
theorem Zy3 (q:Rat):ZL2 (Zbh q)=match decide (q.den=1)with|true=> []|false=>decDigits q.den:=by grind [ZL2,Zik,Zkh]
def ZDG {q:Rat}:ZAQ q=true<->(decDigits q.num.natAbs).length<=2000/\(decDigits q.den).length<=2000:=by simp_all [ZAQ,Xas,Nat.ble_eq]
def ZEx {s:List UInt8} (j:Cn s):dec s=1<->s=[49]:=by constructor;intro h;have:=j.eq;rw[h,decDigits_one dC]at this;exact this.symm;rintro rfl;rfl
theorem ZBC {p q:Rat} (h:Zbh p=Zbh q):p=q:=by grind [ZxC,Zqk,Zy3,ZBa,Zaz,Rat.ext]
def ZMA {s:List UInt8} (h:Cn s):(s==[49])=decide (dec s=1):=by rw[XbQ,beq_iff_eq,decide_eq_true_eq,ZEx h]
theorem Zuh: ∀ (k n:Nat),(ZCN k n).length<=k
 |0,_=>Xae 0
 |k+1,n=>by rw[ZCN];cases Nat.ble 10 n with|true=>have:=Zuh k (n/10);simp only[Xal,List.length_singleton];omega|false=>simp
def Zqm (m:Bool) (l:List Int):(ZeV m l).length<=2101:=by unfold ZeV;cases l.isEmpty with|true=>simp|false=>cases Nat.ble l.length 210 with|true=>grind [Zuh,Xbq]|false=>simp
def Ztt (v:Int):ZeA (wOf v.natAbs)=Nat.ble (decDigits v.natAbs).length 2000/\(Nat.ble (decDigits v.natAbs).length 2000=true->ZeV (decide (v<0)) (wOf v.natAbs)=mns (decide (v<0)) (decDigits v.natAbs)):=by
 let⟨j,C⟩:=ZFS v.natAbs
 refine⟨j,λI=> ?_⟩;rw[C I];by_cases h:v<0;rw[decide_eq_true h,decide_eq_false (by omega: ¬v.natAbs=0)];rfl;rw[decide_eq_false h];cases decide (v.natAbs=0)<;>rfl
def ZhS:Zbh 0=[48]:=by show mns false (decDigits 0++ZfL 1)=[48];rw[decDigits_one dC];rfl
def Zp4 (q:Rat):(Zbh q==[48])=decide (q=0):=by rw[XbQ,beq_iff_eq,decide_eq_true_eq,<-ZhS];grind [ZBC]
end Dv
namespace Go.Proofs.YtpdhpbldangmbaaGreatDoor
open Go.Am Go.Tx Dv Go.Lib
abbrev QR (q:Rat):SV:=QS q.num (q.den:Int)
def Zuf {n:Nat} (h:((wOf n).length:Int)=1) {x:Int} (C:(wOf n)[(0:Int).toNat]? =some x) (I:x=1):n=1:=by have j:=ZcV n;obtain⟨w,hw⟩: ∃w,wOf n=w:=⟨_,rfl⟩;rw[hw]at h C j;match w,h,C,j with| [y],_,C,j=>have J:y=x:=(by simpa using C);rw[J,I]at j;simp only[wv]at j;omega| [],h,_,_=>simp at h|_::_::_,h,_,_=>simp only[Xao]at h;omega
def ZeP {n d:Int} (hd:0<d):(Rat.divInt n d).num=n/(Int.gcd n d:Int)/\((Rat.divInt n d).den:Int)=d/(Int.gcd n d:Int):=by rw[Rat.num_divInt,Rat.den_divInt,Int.sign_eq_one_of_pos hd,if_neg oM,Int.one_mul,Int.gcd_comm d n,Int.natCast_ediv,Int.natAbs_of_nonneg oM];exact⟨rfl,rfl⟩
def Zwy (n:Int) {d:Int} (h:d.natAbs=1) (hd:0<d):QR (Rat.divInt n d)=QS n d:=by have:d=1:=oM;simp_all [ZeP,Int.gcd_one,Int.natCast_one,Int.ediv_one]
def ZvM (n:Int) {d:Int} (h:(Int.gcd n d:Int).natAbs=1) (hd:0<d):QR (Rat.divInt n d)=QS n d:=by simp_all [ZeP,Int.gcd,Int.ediv_one]
def ZyA {n g:Int} (I:0<g) (j:g∣n):(match decide (n<0)with|true=>decide ((0:Int)<((wOf ((n.natAbs:Int)/g).natAbs).length:Int))|false=>false)=decide (n/g<0)/\((n.natAbs:Int)/g).natAbs=(n/g).natAbs:=by obtain⟨k,rfl⟩:=j;rw[Int.mul_ediv_cancel_left _ oM,XbD,Xa6,Int.natAbs_of_nonneg oM,Int.mul_ediv_cancel_left _ oM,Xa3];refine⟨?_,rfl⟩;by_cases C:k<0;grind [Int.mul_neg_of_pos_of_neg,wOf,ZhC,List.length_pos_iff];rw[decide_eq_false (by have:=XbJ (a:=g) (b:=k) oM oM;omega),decide_eq_false C]
def ZL7 (m:Bool) (n d:Int) (z:List SV):List SM:=[.cell [.v .b m,ZbC (wOf n.natAbs)] true, .cell [.v .b (decide (d<0)),ZbC (wOf d.natAbs)] true, .cell z true]
def ZKs (m:Bool) (n d g:Int) (z:List SV):List SM:=[.cell [.v .b m,ZbC (wOf n.natAbs)] true, .cell [.v .b (decide (d<0)),ZbC (wOf d.natAbs)] true, .cell z true, .cell [.v .b (decide (g<0)),ZbC (wOf g.natAbs)] true]
def ZHC:List SV:=[.v .b false, .nils, .v .b false, .nils]
def Zny (n d:Int) (aj:d≠0) (ab:ln n<=700000000) (ad:ln d<=700000000):PureOK prog Zai 81 [IS n,IS d] (λV=>V=QR (Rat.divInt n d)):=by
 refine Zae Zaa func81 ?_;refine Xaa rfl ?_;refine Xaa (λh=> ?_) (λh=> ?_);have ai:d<0:=dT h;obtain⟨n',C⟩: ∃n',-n=n':=⟨_,rfl⟩;obtain⟨j,I⟩: ∃j,-d=j:=⟨_,rfl⟩;have hN:=ZCJ n (by omega);have hD:=ZCJ d (by omega);rw[C]at hN;rw[I]at hD;have hq:Rat.divInt n d=Rat.divInt n' j:=by rw[<-C,<-I,Rat.neg_divInt_neg]
 have hd:0<j:=by omega
 have R:ln n'<=700000000:=by rw[<-C,Zvd];exact ab
 have J:ln j<=700000000:=by rw[<-I,Zvd];exact ad
 refine Xaa rfl ?_;refine hN.mono ?_;rintro _ rfl;refine Xaa rfl ?_;refine hD.mono ?_;rintro _ rfl;refine Xaa rfl ?_;refine Xaa rfl ?_;refine Zqe (ZL7 (decide (n'<0)) n' j ZHC) rfl ?_;rotate_left 1
 obtain⟨n',C⟩: ∃n',n'=n:=⟨_,rfl⟩;obtain⟨j,I⟩: ∃j,j=d:=⟨_,rfl⟩;have hq:Rat.divInt n d=Rat.divInt n' j:=by rw[C,I]
 have hd:0<j:=by have:=dF h;omega
 have R:ln n'<=700000000:=by rw[C];exact ab
 have J:ln j<=700000000:=by rw[I];exact ad
 subst C I;refine Zqe (ZL7 (decide (n'<0)) n' j ZHC) rfl ?_
 all_goals
  rw[hq]
  have hG:=ZLf n' j R J
  obtain⟨g,hg⟩: ∃g:Int,(Int.gcd n' j:Int)=g:=⟨_,rfl⟩
  have aa:0<g:=by
   have:0<Int.gcd n' j:=Int.gcd_pos_of_ne_zero_right _ (by omega);omega
  have ae:ln g<=700000000:=by
   refine XaK (ZlU (b:=j) ?_) J;have:Int.gcd n' j∣j.natAbs:=Int.gcd_dvd_natAbs_right _ _;have:=Nat.le_of_dvd (by omega) this;omega
  have af:g∣n':=by rw[<-hg];exact Int.gcd_dvd_left _ _
  obtain⟨q1,q2⟩:=ZeP (n:=n') hd
  have U:=ZvM n' (d:=j)
  rw[hg]at hG q1 q2 U
  have hA:=Zva (n'.natAbs:Int) g aa (by rw[ln,Xa3];exact R) ae
  rw[ZyX]at hA
  have hB:=Zva j g aa J ae
  obtain⟨s1,s2⟩:=ZyA (n:=n') aa af
  obtain⟨A,eA⟩: ∃A,(n'.natAbs:Int)/g=A:=⟨_,rfl⟩
  obtain⟨Ar,ag⟩: ∃A,(n'.natAbs:Int) % g=A:=⟨_,rfl⟩
  obtain⟨B,eB⟩: ∃A,j/g=A:=⟨_,rfl⟩
  obtain⟨Br,ah⟩: ∃A,j % g=A:=⟨_,rfl⟩
  rw[eA,ag]at hA
  rw[eB,ah]at hB
  rw[eA]at s1 s2
  rw[eB]at q2
  first|refine Za8 (Zby rfl ?_)|refine Za8 (Za8 (Zby rfl ?_))
  refine Zl9 ?_
  refine Zqd rfl (λ_=>rfl) rfl rfl rfl ?_
  iterate 3 refine Zl9 ?_
  refine @Classical.byCases (decide (((wOf j.natAbs).length:Int)=1)=true) _ (λhl=> ?_) (λhl=> ?_)
  obtain⟨y,hy⟩: ∃y,(wOf j.natAbs)[(0:Int).toNat]? =some y:=⟨_,Xac (by have:=dT hl;show 0<_;omega)⟩
  refine Zf8 hl ?_
  refine Zk8 rfl rfl rfl hl (λ_=>rfl) rfl rfl rfl ?_
  refine Znn rfl rfl rfl hl (λ_=>rfl) (Xby 0) hy rfl rfl ?_
  iterate 2 refine Zf8 hl ?_
  refine ZDj hl ?_
  refine Zlr ?_
  refine Xaa (λh=> ?_) (λ_=> ?_)
  ·have e:=Zwy n' (Zuf (dT hl) hy (dT h)) hd
   refine Xaa rfl ?_
   refine Xaa rfl ?_
   refine Xaa rfl ?_
   refine Xaa rfl ?_
   rw[e]
   rfl
  rotate_left 1
  have hl:decide (((wOf j.natAbs).length:Int)=1)=false:=by simpa using hl
  iterate 5 refine ZEo hl ?_
  refine ZGs hl ?_
  refine Zlr ?_
  refine brF rfl ?_
  all_goals
   clear hl
   refine Xaa rfl ?_
   refine Xaa rfl ?_
   refine hG.mono ?_
   rintro _ rfl
   refine Xaa rfl ?_
   refine Zqe (ZKs (decide (n'<0)) n' j g ZHC) rfl ?_
   first|refine Za8 (Zby rfl ?_)|refine Za8 (Za8 (Zby rfl ?_))
   refine Zl9 ?_
   refine Zqd rfl (λ_=>rfl) rfl rfl rfl ?_
   iterate 3 refine Zl9 ?_
   refine @Classical.byCases (decide (((wOf g.natAbs).length:Int)=1)=true) _ (λhl=> ?_) (λhl=> ?_)
   obtain⟨y,hy⟩: ∃y,(wOf g.natAbs)[(0:Int).toNat]? =some y:=⟨_,Xac (by have:=dT hl;show 0<_;omega)⟩
   refine Zf8 hl ?_
   refine Zk8 rfl rfl rfl hl (λ_=>rfl) rfl rfl rfl ?_
   refine Znn rfl rfl rfl hl (λ_=>rfl) (Xby 0) hy rfl rfl ?_
   iterate 2 refine Zf8 hl ?_
   refine ZDj hl ?_
   refine Zlr ?_
   refine Xaa (λh=> ?_) (λ_=> ?_)
   ·have e:=U (Zuf (dT hl) hy (dT h)) hd
    refine Xaa rfl ?_
    refine Xaa rfl ?_
    refine Xaa rfl ?_
    refine Xaa rfl ?_
    rw[e]
    rfl
   rotate_left 1
   have hl:decide (((wOf g.natAbs).length:Int)=1)=false:=by simpa using hl
   iterate 5 refine ZEo hl ?_
   refine ZGs hl ?_
   refine Zlr ?_
   refine brF rfl ?_
   all_goals
    clear hl
    refine Xaa rfl ?_
    refine Xaa rfl ?_
    refine Zqe (ZKs false n' j g ZHC) rfl ?_
    refine Xaa rfl ?_
    refine Xaa rfl ?_
    refine hA.mono ?_
    rintro _ rfl
    refine Xaa rfl ?_
    refine Zqe (ZKs (decide (A<0)) A j g ZHC) rfl ?_
    refine Xaa rfl ?_
    refine Xaa rfl ?_
    refine hB.mono ?_
    rintro _ rfl
    refine Xaa rfl ?_
    refine Zqe (ZKs (decide (A<0)) A B g ZHC) rfl ?_
    first|refine Za8 (Zby rfl ?_)|refine Za8 (Za8 (Zby rfl ?_))
    iterate 2 refine Zl9 ?_
    obtain⟨m,hm⟩: ∃m,decide (n'<0)=m:=⟨_,rfl⟩
    rw[hm]at s1
    cases m with
    |true=>
     refine Zf8 hm ?_
     refine Zk8 rfl rfl rfl hm (λ_=>rfl) rfl rfl rfl ?_
     iterate 2 refine Zf8 hm ?_
     refine ZDj hm ?_
     refine Zl9 ?_
     refine Zag rfl (Xaa rfl ?_)
     refine Xaa rfl ?_
     refine Xaa rfl ?_
     refine Xaa rfl ?_
     refine Xaa rfl ?_
     show SV.agg [.v .b (decide ((0:Int)<((wOf A.natAbs).length:Int))),ZbC (wOf A.natAbs), .v .b (decide (B<0)),ZbC (wOf B.natAbs)]=QS _ _
     simp only at s1
     rw[s2]at s1
     rw[q1,q2,s2,s1]
    |false=>
     iterate 4 refine ZEo hm ?_
     refine ZGs hm ?_
     refine Zl9 ?_
     refine Zag rfl (Xaa rfl ?_)
     refine Xaa rfl ?_
     refine Xaa rfl ?_
     refine Xaa rfl ?_
     refine Xaa rfl ?_
     show SV.agg [.v .b false,ZbC (wOf A.natAbs), .v .b (decide (B<0)),ZbC (wOf B.natAbs)]=QS _ _
     simp only at s1
     rw[q1,q2,s2]
     show SV.agg [.v .b false,ZbC (wOf (n'/g).natAbs), .v .b (decide (B<0)),ZbC (wOf B.natAbs)]=SV.agg [.v .b (decide (n'/g<0)),ZbC (wOf (n'/g).natAbs), .v .b (decide (B<0)),ZbC (wOf B.natAbs)]
     rw[<-s1]
def szQ (q:Rat) (k:Nat):Prop:=ln q.num<=k/\ln (q.den:Int)<=k
def Zku (p q:Rat):Rat.divInt (p.num*q.den+q.num*p.den) (p.den*q.den)=p+q:=by rw[Rat.add_def',<-Xa6,Rat.divInt_ofNat]
def Zkb (p q:Rat):Rat.divInt (p.num*q.num) (p.den*q.den)=p*q:=by rw[Rat.mul_def',<-Xa6,Rat.divInt_ofNat]
def ZoC (p q:Rat):Rat.divInt (p.num*q.den) (p.den*q.num)=p/q:=by grind [Rat.div_def,Rat.inv_def,Rat.num_divInt_den,Rat.divInt_mul_divInt]
theorem Zeo (q:Rat):0<(q.den:Int):=by have:=q.den_pos;omega
def Zl6 (v:Int):sg (decide (v<0)) ((v.natAbs:Nat):Int)=v:=by by_cases h:v<0;rw[decide_eq_true h];simp[sg];omega;rw[decide_eq_false h];simp[sg];omega
def ZmA (p q:Rat) {k:Nat} (C:k<=100000000) (hp:szQ p k) (j:szQ q k):PureOK prog Zai 59 [QR p,QR q] (λV=>V=QR (p+q)):=by
 let⟨I,J⟩:=hp
 let⟨R,U⟩:=j
 have l1:=Ziu p.num q.den;have l2:=Ziu q.num p.den;have l3:=Ziu p.den q.den;have l4:=ZEL (p.num*q.den) (q.num*p.den);refine Zae Zaa func59 ?_;refine Xaa rfl ?_;refine Xaa rfl ?_;refine(ZsO p.num q.den oM oM).mono ?_;rintro _ rfl;refine Xaa rfl ?_;refine Xaa rfl ?_;refine(ZsO q.num p.den oM oM).mono ?_;rintro _ rfl;refine(ZG4 (p.num*q.den) (q.num*p.den) oM oM).mono ?_;rintro _ rfl;refine Xaa rfl ?_;refine Xaa rfl ?_;refine(ZsO p.den q.den oM oM).mono ?_;rintro _ rfl;refine(Zny (p.num*q.den+q.num*p.den) (p.den*q.den) (by have:=Int.mul_pos (Zeo p) (Zeo q);omega) oM oM).mono ?_;rintro _ rfl;rw[Zku];refine Xaa rfl ?_;exact⟨rfl,rfl⟩
def Zts (p q:Rat) {k:Nat} (C:k<=100000000) (hp:szQ p k) (j:szQ q k):PureOK prog Zai 55 [QR p,QR q] (λV=>V=QR (p*q)):=by
 let⟨I,J⟩:=hp
 let⟨R,U⟩:=j
 have l1:=Ziu p.num q.num;have l3:=Ziu p.den q.den;refine Zae Zaa func55 ?_;refine Xaa rfl ?_;refine Xaa rfl ?_;refine(ZsO p.num q.num oM oM).mono ?_;rintro _ rfl;refine Xaa rfl ?_;refine Xaa rfl ?_;refine(ZsO p.den q.den oM oM).mono ?_;rintro _ rfl;refine(Zny (p.num*q.num) (p.den*q.den) (by have:=Int.mul_pos (Zeo p) (Zeo q);omega) oM oM).mono ?_;rintro _ rfl;rw[Zkb];refine Xaa rfl ?_;exact⟨rfl,rfl⟩
def ZIc (p q:Rat) {k:Nat} (I:k<=100000000) (hp:szQ p k) (j:szQ q k) (C:q≠0):PureOK prog Zai 121 [QR p,QR q] (λV=>V=QR (p/q)):=by
 let⟨J,R⟩:=hp
 let⟨U,q2⟩:=j
 have l1:=Ziu p.num q.den;have l3:=Ziu p.den q.num;have hn:q.num≠0:=λh=>C (Rat.num_eq_zero.1 h);refine Zae Zaa func121 ?_;refine Xaa rfl ?_;refine Xaa rfl ?_;refine(ZsO p.num q.den oM oM).mono ?_;rintro _ rfl;refine Xaa rfl ?_;refine Xaa rfl ?_;refine(ZsO p.den q.num oM oM).mono ?_;rintro _ rfl;refine(Zny (p.num*q.den) (p.den*q.num) (Int.mul_ne_zero (by have:=Zeo p;omega) hn) oM oM).mono ?_;rintro _ rfl;rw[ZoC];refine Xaa rfl ?_;exact⟨rfl,rfl⟩
def ZHc (q:Rat) {k:Nat} (C:k<=100000000) (j:szQ q k):PureOK prog Zai 87 [QR q] (λV=>V=QR (-q)):=ZHT q.num q.den (XaK j.1 (by omega))
def Zrk {q:Rat} {k:Nat} (j:szQ q k):szQ (-q) k:=by
 let⟨I,C⟩:=j
 refine⟨?_,C⟩;simp_all [Zvd]
def Zrm (p q:Rat) {k:Nat} (j:k<=100000000) (hp:szQ p k) (C:szQ q k):PureOK prog Zai 58 [QR p,QR q] (λV=>V=QR (p-q)):=by refine Zae Zaa func58 ?_;refine Xaa rfl ?_;refine Xaa rfl ?_;refine(ZHc q j C).mono ?_;rintro _ rfl;refine(ZmA p (-q) j hp (Zrk C)).mono ?_;rintro _ rfl;rw[<-Rat.sub_eq_add_neg];refine Xaa rfl ?_;exact⟨rfl,rfl⟩
def ZEO (n d:Int) (j: -9223372036854775808<=n) (C:n<9223372036854775808) (I: -9223372036854775808<=d) (J:d<9223372036854775808) (hd:d≠0):PureOK prog Zai 54 [.v (.i .i64) n, .v (.i .i64) d] (λV=>V=QR (Rat.divInt n d)):=by have R:ln n<=2:=ZoS oM;have U:ln d<=2:=ZoS oM;refine Zae Zaa func54 ?_;refine(ZIP n j C).mono ?_;rintro _ rfl;refine(ZIP d I J).mono ?_;rintro _ rfl;refine(Zny n d hd oM oM).mono ?_;rintro _ rfl;refine Xaa rfl ?_;exact⟨rfl,rfl⟩
abbrev rs (x:List UInt8×Int):SV:= .tup [.v .s x.1, .v (.i .i64) x.2]
def ZFe (q:Rat):PureOK prog Zai 90 [QR q] (λV=> ∃X,V= .tup [.v .s X, .v .b (ZAQ q)]/\(ZAQ q=true->X=Zbh q)):=by
 refine Zae Zaa func90 ?_;have hN:=ZzY q.num;have hD:=ZzY (q.den:Int);let⟨n1,J⟩:=Ztt q.num
 let⟨d1,d2⟩:=Ztt (q.den:Int)
 have ln:=Zqm (decide (q.num<0)) (wOf q.num.natAbs);have ld:=Zqm (decide ((q.den:Int)<0)) (wOf (q.den:Int).natAbs);have j:ZAQ q=(ZeA (wOf q.num.natAbs)&&ZeA (wOf (q.den:Int).natAbs)):=by rw[n1,d1,Xa3];rfl
 rw[<-n1]at J;rw[<-d1,decide_eq_false (by omega: ¬ (q.den:Int)<0)]at d2;rw[decide_eq_false (by omega: ¬ (q.den:Int)<0)]at ld hD;let⟨t1,e1⟩: ∃x,ZeV (decide (q.num<0)) (wOf q.num.natAbs)=x:=⟨_,rfl⟩
 let⟨f1,g1⟩: ∃x,ZeA (wOf q.num.natAbs)=x:=⟨_,rfl⟩
 let⟨t2,e2⟩: ∃x,ZeV false (wOf (q.den:Int).natAbs)=x:=⟨_,rfl⟩
 let⟨f2,g2⟩: ∃x,ZeA (wOf (q.den:Int).natAbs)=x:=⟨_,rfl⟩
 have hD:PureOK prog Zai 109 [IS (q.den:Int)] (λV=>V= .tup [.v .s (ZeV false (wOf (q.den:Int).natAbs)), .v .b (ZeA (wOf (q.den:Int).natAbs))]):=by have:=ZzY (q.den:Int);refine this.mono ?_;rintro _ rfl;rw[decide_eq_false (by omega: ¬ (q.den:Int)<0)]
 rw[e1,g1]at hN J;rw[e2,g2]at hD d2;rw[g1,g2]at j;rw[e1]at ln;rw[e2]at ld;rw[Xa3]at d2;have R:Zbh q=mns (decide (q.num<0)) (decDigits q.num.natAbs++ZfL q.den):=rfl;let⟨m,hm⟩: ∃m,decide (q.num<0)=m:=⟨_,rfl⟩
 have C:f1=true->t1=mns m (decDigits q.num.natAbs):=λh=>by rw[J h,hm]
 rw[hm]at R;rw[j];refine Xaa rfl ?_;refine hN.mono ?_;rintro _ rfl;cases f1 with|false=>refine Xaa (λ_=> ?_) (λh=>nomatch h);exact⟨[],rfl,λh=>nomatch h⟩|true=>have C:=C rfl;refine Xaa (λh=>nomatch h) (λ_=> ?_);refine Xaa rfl ?_;refine hD.mono ?_;rintro _ rfl;refine Xaa (λh=> ?_) (λh=> ?_);have U:=eq_of_beq h;refine⟨t1,rfl,λhf=> ?_⟩;have hf:=hf;have I:=d2 hf;have h4:=I.symm.trans U;have h5:=(ZEx (Zb4 q.den)).2 h4|>λh=>(by rw[Zaz]at h;exact h);rw[R,C,ZfL,decide_eq_true h5,XaQ];have U: ¬t2=[49]:=λe=>(by rw[e]at h;cases h);refine Xaa (by show t1.length+1<=9223372036854775807;omega) ?_;refine Xaa (by show(t1++ [47]).length+t2.length<=9223372036854775807;rw[Xal];simp only[List.length_singleton];omega) ?_;refine⟨t1++ [47]++t2,rfl,λhf=> ?_⟩;have hf:=hf;have I:=d2 hf;have h5: ¬q.den=1:=λe=>U (by rw[I,e];exact decDigits_one dC);rw[R,C,ZfL,decide_eq_false h5,I];cases m<;>simp[mns]
end Go.Proofs.YtpdhpbldangmbaaGreatDoor
namespace Dv
open Go Go.Lib
def dv:List Int->Int
 | []=>0
 |d::l=>d+10*dv l
def ZtH: ∀ (l:List Int) (d:Int),dv (l++ [d])=dv l+10^l.length*d
 | [],d=>by simp[dv]
 |x::l,d=>by simp only[Xa5,dv,ZtH l d,Xao,XbB];grind
def D9 (l:List Int):Prop:= ∀d∈l,0<=d/\d<=9
def Zqq: ∀ {l:List Int},(∀d∈l,0<=d)->0<=dv l
 | [],_=>Xby _
 |x::l,h=>by have C:=h x Xah;have I:=Zqq λy j=>h y (Xai _ j);simp[dv];omega
def ZH6: ∀ {l:List Int},D9 l->dv l<10^l.length
 | [],_=>by simp[dv]
 |x::l,h=>by have C:=h x Xah;have I:=ZH6 λy j=>h y (Xai _ j);simp[dv,Xao,XbB];omega
def ZGq {l:List Int} {i:Nat} (h:i<l.length):dv (l.take (i+1))=dv (l.take i)+10^i*l[i]:=by rw[Xa2 h,ZtH,Xaz,XaU (XbN h)]
def Zui: ∀ {l:List Int} {i:Nat} {x:Int} (h:i<l.length),dv (l.set i x)=dv l+10^i*(x-l[i])
 | [],i,x,h=>by simp at h
 |y::l,0,x,_=>by simp only[List.set_cons_zero,dv,List.getElem_cons_zero,Int.pow_zero];omega
 |y::l,i+1,x,h=>by have j:=Zui (x:=x) (by simpa using h);simp only[List.set_cons_succ,dv,List.getElem_cons_succ,j,XbB];grind
def Zj5 (l:List Int):List UInt8:=l.reverse.map λd=>UInt8.ofNat (48+d).toNat
def ZpB: ∀ {l:List Int},D9 l->Dg (Zj5 l)/\((dec (Zj5 l):Nat):Int)=dv l/\(Zj5 l).length=l.length
 | [],_=>⟨λc j=>by simp[Zj5]at j,rfl,rfl⟩
 |d::l,h=>by have h1:=h d Xah;(let⟨I,J,R⟩:=ZpB λy U=>h y (Xai _ U));have e:Zj5 (d::l)=Zj5 l++ [UInt8.ofNat (48+d).toNat]:=(by simp[Zj5]);have e2:(48+d).toNat=48+d.toNat:=oM;have C:(UInt8.ofNat (48+d).toNat).toNat=48+d.toNat:=(by rw[e2];exact Zd6 oM);rw[e];refine⟨I.app ?_, ?_,by simp[R]⟩;intro c j;rw[Xav.1 j,C];omega;rw[ZgS,C,XbZ,Xa6,J];simp only[dv];omega
def Zz7 {s:List UInt8} (h:Dg s) {k:Nat} (J:k<s.length):(s[s.length-1-k]'(by omega)).toNat-48=dec s/10^k % 10:=by
 have e:s=s.take (s.length-1-k)++(s[s.length-1-k]'oM::s.drop (s.length-1-k+1)):=by simp_all
 have hd:Dg (s.drop (s.length-1-k+1)):=λc C=>h c (XbE C);have hl:(s.drop (s.length-1-k+1)).length=k:=by rw[XbC];omega
 have j:=ZcO hd;rw[hl]at j;have C:=h _ (XaI (show s.length-1-k<s.length by omega));have I:dec s=(dec (s.take (s.length-1-k))*10+((s[s.length-1-k]'oM).toNat-48))*10^k+dec (s.drop (s.length-1-k+1)):=by grind [Zr2,Zdd,XbY]
 rw[I,Nat.add_comm,Nat.add_mul_div_right _ _ (Nat.pow_pos dC),Nat.div_eq_of_lt j,Xag];omega
def Zfb {s:List UInt8} (h:Dg s) {k:Nat} (j:s.length<=k):dec s/10^k % 10=0:=by have C:=ZcO h;have I:=Xbd (show 0<10 by decide) j;rw[Nat.div_eq_of_lt oM]
def Zgy (n k:Nat):n % 10^(k+1)=n % 10^k+10^k*(n/10^k % 10):=by rw[XbY,Nat.mod_mul]
end Dv
