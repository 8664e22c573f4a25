/- The reference: NatError, NatCmp, digit, strip, text. -/
import Derived.Test.YtpdhpbldangmbaaGreatDoorT16
set_option linter.all false
set_option maxHeartbeats 8000000
set_option maxRecDepth 100000
open Go.Proofs.Tryz
open Go.IntKind(i64 u8)
namespace Go.Proofs.YtpdhpbldangmbaaGreatDoor
open Go.Am Go.Tx Dv Go.Lib
def Zuy (a b:List UInt8) (J:Cn a) (R:Cn b) (aa:a.length<=9223372036854775806) (ab:b.length<=9223372036854775806):PureOK prog Zai 67 [.v .s a, .v .s b] (λV=>V= .v (.i .i64) ((dec a:Int)-(dec b:Int)).sign):=by
 refine Zae Zaa func67 ?_;have neg:dec a<dec b->((dec a:Int)-(dec b:Int)).sign= -1:=λh=>Int.sign_eq_neg_one_of_neg oM;have pos:dec b<dec a->((dec a:Int)-(dec b:Int)).sign=1:=λh=>Int.sign_eq_one_of_pos oM;refine Xaa (λh=> ?_) (λh=> ?_);have j:=dT h;exact congrArg (SV.v (.i .i64)) (neg (ZkM J R oM)).symm;have h1:=dF h;refine Xaa (λh=> ?_) (λh=> ?_);have j:=dT h;exact congrArg (SV.v (.i .i64)) (pos (ZkM R J oM)).symm;have h2:=dF h;have hl:a.length=b.length:=oM;have C:=ZiC J.2.1 R.2.1 hl;refine Xaa (λh=> ?_) (λh=> ?_);have j:=h;exact congrArg (SV.v (.i .i64)) (neg (C.1 j)).symm;have h3: ¬dec a<dec b:=λh4=>by have j:=h;rw[C.2 h4]at j;cases j
 have I:=h;refine Xaa (λh=> ?_) (λh=> ?_);have j:=h;rw[I,Bool.false_or]at j;have U:a≠b:=by simpa using j
 have:dec a≠dec b:=λe=>U (J.inj R e);exact congrArg (SV.v (.i .i64)) (pos oM).symm;have j:=h;rw[I,Bool.false_or]at j;have he:a=b:=by simpa using j
 subst he;exact congrArg (SV.v (.i .i64)) (by simp:(0:Int)=((dec a:Int)-(dec a:Int)).sign)
def Zi5 (s:List UInt8) (k:Nat) (hd:Dg s) (hl:s.length<=1000000000) (hk:k<=1000000000):PureOK prog Zai 91 [.v .s s, .v (.i .i64) (k:Int)] (λV=>V= .v (.i .i64) ((dec s/10^k % 10:Nat):Int)):=by
 refine Zae Zaa func91 ?_;refine Xaa (λh=> ?_) (λh=> ?_);have j:k<s.length:=by have h':=dT h;omega
 have hi:s.length-1-k<s.length:=oM;let⟨c,J⟩: ∃c,s[s.length-1-k]=c:=⟨_,rfl⟩
 have R:i64.wrap (i64.wrap ((s.length:Int)-1)-(k:Int))=((s.length-1-k:Nat):Int):=by rw[Zap (x:=(s.length:Int)-1) oM oM,Zap oM oM];omega
 have C:=hd _ (XaI hi);have U:=Zz7 hd j;rw[J]at C U;have j1:=j0 _ _ R oM;refine⟨c,j1,by rw[R,Xab,Xac hi,J], ?_⟩;refine congrArg (SV.v (.i .i64)) (?_:i64.wrap (u8.wrap (((c.toNat:Nat):Int)-48))=_);have e2:u8.wrap (((c.toNat:Nat):Int)-48)=((c.toNat-48:Nat):Int):=by rw[Zfl oM oM];omega
 rw[e2,Zap oM oM,U];have I:s.length<=k:=by have h':=dF h;omega
 exact congrArg (SV.v (.i .i64)) (by rw[Zfb hd I];rfl)
def Zo3 (s:List UInt8) (hd:Dg s) (C:s≠ []) (hl:s.length<=9223372036854775806):PureOK prog Zai 110 [.v .s s] (λV=>V= .v .s (decDigits (dec s))):=by
 refine Zae Zaa func110 ?_;refine Zaq Zaa rfl (λr=> [(0, .v .s r)]) (λ_=> [])
  (λr=>Dg r/\r≠ []/\dec r=dec s/\r.length<=s.length) (λr=>r.length) ?_ s ?_ ?_
 ·rintro r ⟨I,h2,J,h4⟩;obtain⟨c,t,rfl⟩: ∃c t,r=c::t:=(by cases r with|nil=>exact absurd rfl h2|cons c t=>exact⟨c,t,rfl⟩);have done:(1<(c::t).length->c≠48)->SV.v .s (c::t)= .v .s (decDigits (dec s)):=λh=>(by have j:Cn (c::t):=⟨sM,I,λhl R=>h hl (by simpa using R)⟩;rw[<-J,j.eq]);refine Za8 (Za8 (Zby rfl ?_));refine axT ?_;cases U:decide ((1:Int)<((c::t).length:Int))with|true=>have hlen:=dT U;refine Zf8 rfl ?_;refine Znn rfl rfl rfl rfl (λ_=>rfl) (Xby 0) rfl rfl rfl ?_;refine axT ?_;refine Xaa (λh=> ?_) (λh=> ?_);have j:c=48:=UInt8.toNat_inj.1 (by have R:((c.toNat:Nat):Int)=48:=dT h;show c.toNat=48;omega);subst j;refine Xaa ⟨dC,Xbw hlen⟩ ?_;have ht:t≠ []:=(by rintro rfl;simp at hlen);have et:t=List.drop (Int.toNat 1) (List.take ((48:UInt8)::t).length (48::t)):=(by rw[Xa1];rfl);refine⟨t,⟨λx hx=>I x (Xai _ hx),ht,by rw[<-J,Zdd];simp,by have:=h4;simp at this;omega⟩,by show t.length<(48::t).length;simp, ?_⟩;exact eO;·have j:c≠48:=(by rintro rfl;exact absurd rfl (dF h: ¬ (((48:UInt8).toNat:Nat):Int)=48));exact done λ_=>j|false=>have hlen:=dF U;(iterate 3 refine ZEo rfl ?_);refine axT ?_;exact done λh=>oM
 exact⟨hd,C,rfl,Xae _⟩;exact eO
def Zsp (l:List Int) (hd:D9 l) (hl:l.length<=1000000):PureOK prog Zai 92 [.v (.l (.i .i64)) l] (λV=>V= .v .s (decDigits (dv l).toNat)):=by
 refine Zae Zaa func92 ?_;have w2:0<=(l.length:Int)/\(l.length:Int)<=l.length/\(1:Int)*l.length<=281474976710656/\(l.length:Int)<9223372036854775808:=oM;refine Xaa w2 ?_;refine Zaq Zaa rfl (λ(t:Nat×List Int)=> [(0, .v (.l (.i .i64)) l),(3, .ref 0 0 l.length none),(9, .v (.l (.i .i64)) l),(10, .v (.i .i64) (l.length:Int)),(11, .v (.i .i64) (t.1:Int))]) (λt=> [.row (.i .u8) t.2 true])
  (λt=>t.1<=l.length/\t.2.length=l.length/\t.2.drop (l.length-t.1)=((l.take t.1).reverse.map λd=>48+d)) (λt=>l.length-t.1) ?_ (0,List.replicate l.length 0) ?_ ?_
 rintro⟨i,b⟩ ⟨hi,I,R⟩;simp only at hi I R;refine Xaa (λh=> ?_) (λh=> ?_);have j:i<l.length:=by have h':=dT h;omega
 have U:=hd _ (XaI j);let⟨d,ed⟩: ∃d,l[i]=d:=⟨_,rfl⟩
 rw[ed]at U;have e1:i64.wrap (i64.wrap ((l.length:Int)-1)-(i:Int))=((l.length-1-i:Nat):Int):=by rw[Zap (x:=(l.length:Int)-1) oM oM,Zap oM oM];omega
 have hj:l.length-1-i<b.length:=oM;have b1:(0:Int)<=i64.wrap (i64.wrap ((l.length:Int)-1)-(i:Int))/\i64.wrap (i64.wrap ((l.length:Int)-1)-(i:Int))<(l.length:Int):=by rw[e1];omega
 refine⟨d,XaG i,by rw[Xab,Xac j,ed], ?_⟩;refine Xaa b1 ?_;refine Exists.intro (b[l.length-1-i]) (Xaa (by show b[0+(i64.wrap (i64.wrap ((l.length:Int)-1)-(i:Int))).toNat]? =_;rw[e1,Xag,Xab];exact Xac hj) ?_);have ev:u8.wrap (i64.wrap (48+d))=48+d:=by rw[Zap oM oM];exact Zfl oM oM
 have er:b.set (l.length-1-i) (48+d)=b.set (0+(i64.wrap (i64.wrap ((l.length:Int)-1)-(i:Int))).toNat) (u8.wrap (i64.wrap (48+d))):=by rw[ev,e1,Xag,Xab]
 have wi:i64.wrap ((i:Int)+1)=((i+1:Nat):Int):=Zap oM oM;refine⟨(i+1,b.set (l.length-1-i) (48+d)),⟨j,by show(b.set _ _).length=_;rw[Xap];exact I, ?_⟩,by show l.length-(i+1)<l.length-i;omega, ?_⟩;show(b.set (l.length-1-i) (48+d)).drop (l.length-(i+1))=_;rw[show l.length-(i+1)=l.length-1-i by omega,XaM (by rw[Xap];omega),XbT,XbA oM,show l.length-1-i+1=l.length-i by omega,R,Xa2 j,ed];simp;exact eO;have he:i=l.length:=by have h':=dF h;omega
 subst he;rw[Xbi,XaP,Xa1]at R;have hs:sub b 0 l.length=b:=by rw[sub,XaP,Xax oM]
 obtain⟨c1,c2,c3⟩:=ZpB hd;have J:Zkv b=Zj5 l:=by rw[R,Zkv,Zj5,XbG];rfl
 refine Xaa (by show 0+l.length<=b.length;omega) ?_;refine Xaa (by show([48]:List UInt8).length+(Zkv (sub b 0 l.length)).length<=_;rw[hs,J,c3];simp;omega) ?_;have C:=Zo3 (48::Zj5 l) (λc hc=>by rcases XaF.1 hc with rfl|hc;decide;exact c1 c hc) sM (by rw[Xao,c3];omega);rw[Zm6 c1]at C;have e5:(dv l).toNat=dec (Zj5 l):=by rw[<-c2,Xab]
 have e6:[48]++Zkv (sub b 0 l.length)=48::Zj5 l:=by rw[hs,J];rfl
 rw[<-e6,<-e5]at C;refine C.mono ?_;rintro _ rfl;rfl;refine⟨Xak _,sM, ?_⟩;show(List.replicate l.length (0:Int)).drop (l.length-0)=_;rw[List.drop_of_length_le sM];simp;exact eO
def ZK3 (a b:List UInt8) (t:Nat×Int×List Int):TM:=[(0, .v .s a),(1, .v .s b),(5, .ref 0 0 t.2.2.length none),(6, .v (.i .i64) t.2.1),(7, .v (.i .i64) (t.1:Int))]
def ZDP (a b:List UInt8) (C:Dg a) (I:Dg b) (an:a.length<=900000) (ao:b.length<=900000):PureOK prog Zai 66 [.v .s a, .v .s b] (λV=>V= .v .s (decDigits (dec a+dec b))):=by
 refine Zae Zaa func66 ?_;refine Zaq Zaa rfl (ZK3 a b) (λt=> [.row (.i .i64) t.2.2 true])
  (λt=>t.1<=max a.length b.length+1/\0<=t.2.1/\t.2.1<=1/\D9 t.2.2/\t.2.2.length=t.1/\(t.1=max a.length b.length+1->t.2.1=0)/\dv t.2.2+10^t.1*t.2.1=((dec a % 10^t.1+dec b % 10^t.1:Nat):Int)) (λt=>max a.length b.length+2-t.1) ?_ (0,0,[]) ?_ ?_
 ·rintro⟨k,c,out⟩ ⟨hk,ag,ah,h9,ho,U,j⟩;simp only at hk ag ah h9 ho U j;refine Za8 (Za8 (Zby rfl ?_));refine axT ?_;cases h1:decide ((k:Int)<(a.length:Int));case' true=>
   have ai:=dT h1
   iterate 4 refine ZEo rfl ?_
   refine ZDj rfl ?_
   refine Zl9 ?_
   iterate 2 refine ZEo rfl ?_
   refine axT ?_
  case' false=>
   have ai:=dF h1
   iterate 4 refine Zf8 rfl ?_
   refine axT ?_
   cases h2:decide ((k:Int)<(b.length:Int))
   case' true=>
    have aj:=dT h2
    iterate 2 refine ZEo rfl ?_
    refine axT ?_
   case' false=>
    have aj:=dF h2
    iterate 2 refine Zf8 rfl ?_
    refine axT ?_
    refine Xaa (λh3=> ?_) (λh3=> ?_)
    rotate_left
    ·have ak: ¬ (0:Int)<c:=dF h3
     have hc:c=0:=oM
     subst hc
     have ea:dec a % 10^k=dec a:=Xbz (XaW (ZcO C) (Xbd dC oM))
     have eb:dec b % 10^k=dec b:=Xbz (XaW (ZcO I) (Xbd dC oM))
     rw[ea,eb,Int.mul_zero,Int.add_zero]at j
     refine Xaa (by show 0+out.length<=out.length;omega) ?_
     have hs:sub out 0 out.length=out:=by rw[sub,XaP,Xa1]
     have hr:=Zsp out h9 oM
     rw[<-hs]at hr
     refine hr.mono ?_
     rintro _ rfl
     rw[hs,j,Xab]
     rfl
    have ak:(0:Int)<c:=dT h3
  all_goals
   refine(Zi5 a k C oM oM).mono ?_
   rintro _ rfl
   refine(Zi5 b k I oM oM).mono ?_
   rintro _ rfl
   obtain⟨J,aa⟩: ∃d:Nat,dec a/10^k % 10=d:=⟨_,rfl⟩
   obtain⟨R,ab⟩: ∃d:Nat,dec b/10^k % 10=d:=⟨_,rfl⟩
   have ad:=Zgy (dec a) k
   have ae:=Zgy (dec b) k
   rw[aa]at ad
   rw[ab]at ae
   rw[aa,ab]
   have ev:i64.wrap (i64.wrap ((J:Int)+(R:Int))+c)=(J:Int)+R+c:=by rw[Zap (x:=(J:Int)+(R:Int)) oM oM,Zap oM oM]
   obtain⟨v,hv⟩: ∃v:Int,v=(J:Int)+R+c:=⟨_,rfl⟩
   rw[<-hv]at ev
   have e1:(i64.wrap (i64.wrap ((J:Int)+(R:Int))+c)).tmod 10=v % 10:=by rw[ev,Int.tmod_eq_emod_of_nonneg oM]
   have e2:i64.wrap ((i64.wrap (i64.wrap ((J:Int)+(R:Int))+c)).tdiv 10)=v/10:=by rw[ev,Int.tdiv_eq_ediv_of_nonneg oM,Zap oM oM]
   refine Xaa dC ?_
   refine Xaa (by show 0+1<=1;decide) ?_
   refine Xaa (by show 0+out.length<=out.length;omega) ?_
   refine Xaa (by show(out.length+(0+1))*8<=_;omega) ?_
   refine Xaa dC ?_
   have es:out++ [v % 10]=sub out 0 out.length++ [(i64.wrap (i64.wrap ((J:Int)+(R:Int))+c)).tmod 10]:=by rw[e1,sub,XaP,Xa1]
   have wi:i64.wrap ((k:Int)+1)=((k+1:Nat):Int):=Zap oM oM
   refine⟨(k+1,v/10,out++ [v % 10]),⟨?_,by show 0<=v/10;omega,by show v/10<=1;omega, ?_,by show(out++ [v % 10]).length=k+1;simp[ho], ?_, ?_⟩,by show max a.length b.length+2-(k+1)<max a.length b.length+2-k;omega, ?_⟩
   ·show k+1<=max a.length b.length+1
    rcases Xa8 k (max a.length b.length+1)with h|h
    ·omega
    ·have:=U oM
     omega
   ·intro d hd
    rcases XaO.1 hd with hd|hd
    ·exact h9 d hd
    ·rw[Xav.1 hd];omega
   ·intro af
    have af:k+1=max a.length b.length+1:=af
    have z1:=Zfb C (show a.length<=k by omega)
    have z2:=Zfb I (show b.length<=k by omega)
    show v/10=0
    omega
   ·show dv (out++ [v % 10])+10^(k+1)*(v/10)=_
    rw[ZtH,ho,XbB,ad,ae]
    have e3:=XbU v 10
    have e4:(10:Int)^k*(v % 10)+10^k*10*(v/10)=10^k*v:=by rw[Int.mul_assoc,<-Int.mul_add,e3]
    rw[Int.add_assoc,e4,hv]
    rw[XbZ,XbZ,XbZ,Xa6,Xa6,Int.natCast_pow]
    rw[XbZ]at j
    have al:((10:Nat):Int)=10:=rfl
    rw[al]
    generalize(10:Int)^k=p at*
    grind
   ·refine Zbx rfl rfl ?_ ?_
    ·exact⟨rfl,rfl,⟨rfl,(by simp:(out++ [v % 10]).length=out.length+1),(by simp:(out++ [v % 10]).length=out.length+1)⟩,e2.symm,wi.symm,trivial⟩
    ·exact⟨⟨es,λ_=>rfl⟩,trivial⟩
 exact⟨Xak _,Xby _,by show(0:Int)<=1;decide,λd hd=>by simp at hd,rfl,λ_=>rfl,by simp[dv,Nat.mod_one]⟩;exact eO
def ZLD (a b:List UInt8) (t:Nat×Int×List Int):TM:=[(0, .v .s a),(1, .v .s b),(5, .ref 0 0 t.2.2.length none),(6, .v (.i .i64) t.2.1),(10, .v (.i .i64) (a.length:Int)),(11, .v (.i .i64) (t.1:Int))]
def ZuS (a b:List UInt8) (C:Dg a) (ag:Dg b) (ak:a.length<=900000) (al:b.length<=900000) (hle:dec b<=dec a):PureOK prog Zai 68 [.v .s a, .v .s b] (λV=>V= .v .s (decDigits (dec a-dec b))):=by
 refine Zae Zaa func68 ?_;refine Zaq Zaa rfl (ZLD a b) (λt=> [.row (.i .i64) t.2.2 true])
  (λt=>t.1<=a.length/\0<=t.2.1/\t.2.1<=1/\D9 t.2.2/\t.2.2.length=t.1/\dv t.2.2+((dec b % 10^t.1:Nat):Int)=((dec a % 10^t.1:Nat):Int)+10^t.1*t.2.1) (λt=>a.length-t.1) ?_ (0,0,[]) ?_ ?_
 ·rintro⟨k,c,out⟩ ⟨hk,ah,ai,h9,ho,j⟩;simp only at hk ah ai h9 ho j;refine Xaa (λh=> ?_) (λh=> ?_)
  ·have I:k<a.length:=(by have h':=dT h;omega);refine(Zi5 a k C oM oM).mono ?_;rintro _ rfl;refine(Zi5 b k ag oM oM).mono ?_;rintro _ rfl;(let⟨J,ab⟩: ∃d:Nat,dec a/10^k % 10=d:=⟨_,rfl⟩);(let⟨R,ad⟩: ∃d:Nat,dec b/10^k % 10=d:=⟨_,rfl⟩);have ae:=Zgy (dec a) k;have af:=Zgy (dec b) k;rw[ab]at ae;rw[ad]at af;rw[ab,ad];have ev:i64.wrap (i64.wrap ((J:Int)-(R:Int))-c)=(J:Int)-R-c:=(by rw[Zap (x:=(J:Int)-(R:Int)) oM oM,Zap oM oM]);(let⟨v,hv⟩: ∃v:Int,v=(J:Int)-R-c:=⟨_,rfl⟩);rw[<-hv]at ev;have wi:i64.wrap ((k:Int)+1)=((k+1:Nat):Int):=Zap oM oM;have next: ∀d U:Int,0<=d->d<=9->d=v+10*U->0<=U->U<=1->(k+1<=a.length/\0<=U/\U<=1/\D9 (out++ [d])/\(out++ [d]).length=k+1/\dv (out++ [d])+((dec b % 10^(k+1):Nat):Int)=((dec a % 10^(k+1):Nat):Int)+10^(k+1)*U):=by intro d U d0 d9 ed c0 c1;refine⟨I,c0,c1, ?_,by simp[ho], ?_⟩;intro x hx;rcases XaO.1 hx with hx|hx;exact h9 x hx;rw[Xav.1 hx];exact⟨d0,d9⟩;rw[ZtH,ho,XbB,ae,af,XbZ,XbZ,Xa6,Xa6,Int.natCast_pow];have aj:((10:Nat):Int)=10:=rfl;rw[aj];generalize(10:Int)^k=p at*;subst ed;rw[hv];grind
   refine Xaa (λh2=> ?_) (λh2=> ?_);(·have aa:=dT h2;rw[ev]at aa;have e1:i64.wrap (i64.wrap (i64.wrap ((J:Int)-(R:Int))-c)+10)=v+10:=(by rw[ev];exact Zap oM oM);refine Xaa (by show 0+1<=1;decide) ?_;refine Xaa (by show 0+out.length<=out.length;omega) ?_;refine Xaa (by show(out.length+(0+1))*8<=_;omega) ?_;have es:out++ [v+10]=sub out 0 out.length++ [i64.wrap (i64.wrap (i64.wrap ((J:Int)-(R:Int))-c)+10)]:=(by rw[e1,sub,XaP,Xa1]);refine⟨(k+1,1,out++ [v+10]),next (v+10) 1 oM oM oM dC dC,by show a.length-(k+1)<a.length-k;omega, ?_⟩;refine Zbx rfl rfl ?_ ?_;exact⟨rfl,rfl,⟨rfl,(by simp:(out++ [v+10]).length=out.length+1),(by simp:(out++ [v+10]).length=out.length+1)⟩,rfl,rfl,wi.symm,trivial⟩;exact⟨⟨es,λ_=>rfl⟩,trivial⟩);·have aa:=dF h2;rw[ev]at aa;refine Xaa (by show 0+1<=1;decide) ?_;refine Xaa (by show 0+out.length<=out.length;omega) ?_;refine Xaa (by show(out.length+(0+1))*8<=_;omega) ?_;have es:out++ [v]=sub out 0 out.length++ [i64.wrap (i64.wrap ((J:Int)-(R:Int))-c)]:=(by rw[ev,sub,XaP,Xa1]);refine⟨(k+1,0,out++ [v]),next v 0 oM oM oM dC dC,by show a.length-(k+1)<a.length-k;omega, ?_⟩;refine Zbx rfl rfl ?_ ?_;exact⟨rfl,rfl,⟨rfl,(by simp:(out++ [v]).length=out.length+1),(by simp:(out++ [v]).length=out.length+1)⟩,rfl,rfl,wi.symm,trivial⟩;exact⟨⟨es,λ_=>rfl⟩,trivial⟩
  have he:k=a.length:=(by have h':=dF h;omega);subst he;have ea:=Xbz (ZcO C);have eb:=Xbz (Nat.lt_of_le_of_lt hle (ZcO C));rw[ea,eb]at j;have I:=ZH6 h9;rw[ho]at I;have hc:c=0:=(by rcases(show c=0\/c=1 by omega)with h|h;exact h;subst h;omega);subst hc;rw[Int.mul_zero,Int.add_zero]at j;refine Xaa (by show 0+out.length<=out.length;omega) ?_;have hs:sub out 0 out.length=out:=(by rw[sub,XaP,Xa1]);have hr:=Zsp out h9 oM;rw[<-hs]at hr;refine hr.mono ?_;rintro _ rfl;have e:(dv out).toNat=dec a-dec b:=oM;rw[hs,e];rfl
 exact⟨Xak _,Xby _,by show(0:Int)<=1;decide,λd hd=>by simp at hd,rfl,by simp[dv,Nat.mod_one]⟩;exact eO
def N90 (l:List Int):Prop:= ∀d∈l,0<=d/\d<=90
def ZKX (a b:List UInt8) (i:Nat) (x:Int) (t:Nat×List Int):TM:=[(0, .v .s a),(1, .v .s b),(5, .ref 0 0 (a.length+b.length+1) none),(6, .v (.i .i64) (i:Int)),(7, .v (.i .i64) x),(18, .v (.i .i64) (a.length:Int)),(19, .v (.i .i64) (i:Int)),(26, .v (.i .i64) (b.length:Int)),(27, .v (.i .i64) (t.1:Int))]
def ZA2 (a b:List UInt8) (i:Nat) (x:Int) (out:List Int) (J:Dg b) (ai:a.length<=300000) (aj:b.length<=300000) (hi:i<a.length) (ad:0<=x) (ae:x<=9) (af:out.length=a.length+b.length+1) (R:D9 out):
 LoopOK prog Zai 0 ⟨64,0,80⟩ (ZaN Tryz.f64 7) (ZKX a b i x (0,out)) [.row (.i .i64) out true]
 (λe tm hp=>e= .exit 2/\ ∃ (o:List Int) (X:SV),(o.length=a.length+b.length+1/\N90 o/\dv o=dv out+10^i*(x*(dec b:Int)))/\tm=(28,X)::ZKX a b i x (b.length,o)/\hp=[.row (.i .i64) o true]):=by
 refine Zaq Zaa rfl (ZKX a b i x) (λt=> [.row (.i .i64) t.2 true])
  (λt=>t.1<=b.length/\t.2.length=a.length+b.length+1/\N90 t.2/\t.2.drop (i+t.1)=out.drop (i+t.1)/\dv t.2=dv out+10^i*(x*((dec b % 10^t.1:Nat):Int))) (λt=>b.length-t.1) ?_ (0,out) ?_ Zaj
 rintro⟨k,o⟩ ⟨hk,hl,C,hd,j⟩;simp only at hk hl C hd j;refine Xaa (λh=> ?_) (λh=> ?_);have ag:k<b.length:=by have h':=dT h;omega
 have hj:i+k<o.length:=oM;have U:i+k<out.length:=oM;have he:o[i+k]=out[i+k]:=by have:(o.drop (i+k))[0]? =(out.drop (i+k))[0]? :=(by rw[hd]);rw[List.getElem?_drop,List.getElem?_drop,Nat.add_zero,Xac hj,Xac U]at this;exact Xbp this
 have aa:=R _ (XaI U);rw[<-he]at aa;let⟨z,ez⟩: ∃z,o[i+k]=z:=⟨_,rfl⟩
 rw[ez]at aa;have I:i64.wrap ((i:Int)+(k:Int))=((i+k:Nat):Int):=Zap oM oM;have bi:(0:Int)<=i64.wrap ((i:Int)+(k:Int))/\i64.wrap ((i:Int)+(k:Int))<((a.length+b.length+1:Nat):Int):=by rw[I];omega
 have gz:o[0+(i64.wrap ((i:Int)+(k:Int))).toNat]? =some z:=by rw[I,Xag,Xab,Xac hj,ez]
 refine Xaa bi ?_;refine Exists.intro z (Xaa gz ?_);refine(Zi5 b k J oM oM).mono ?_;rintro _ rfl;let⟨y,ey⟩: ∃d:Nat,dec b/10^k % 10=d:=⟨_,rfl⟩
 have ab:=Zgy (dec b) k;rw[ey]at ab;rw[ey];have p0:0<=x*(y:Int):=XbJ ad oM;have p1:x*(y:Int)<=9*9:=Int.mul_le_mul ae oM oM dC;have ev:i64.wrap (z+i64.wrap (x*(y:Int)))=z+x*y:=by rw[Zap (x:=x*(y:Int)) oM oM,Zap oM oM]
 refine Xaa bi ?_;refine Exists.intro z (Xaa gz ?_);have er:o.set (i+k) (z+x*y)=o.set (0+(i64.wrap ((i:Int)+(k:Int))).toNat) (i64.wrap (z+i64.wrap (x*(y:Int)))):=by rw[ev,I,Xag,Xab]
 have wi:i64.wrap ((k:Int)+1)=((k+1:Nat):Int):=Zap oM oM;refine⟨(k+1,o.set (i+k) (z+x*y)),⟨ag,by show(o.set _ _).length=_;rw[Xap];exact hl, ?_, ?_, ?_⟩,by show b.length-(k+1)<b.length-k;omega, ?_⟩;intro d hd;rcases Xbx hd with hd|rfl;exact C d hd;omega;show(o.set _ _).drop (i+(k+1))=_;rw[XbA oM,<-XbL,<-Xbl,hd,Xbl];show dv (o.set (i+k) (z+x*y))=dv out+10^i*(x*((dec b % 10^(k+1):Nat):Int));rw[Zui hj,ez,j,ab,XbZ,Xa6,Int.natCast_pow,Int.pow_add];have ah:((10:Nat):Int)=10:=rfl;rw[ah];generalize(10:Int)^i=p;generalize(10:Int)^k=q;grind;exact eO;have he:k=b.length:=by have h':=dF h;omega
 subst he;rw[Xbz (ZcO J)]at j;exact⟨rfl,o,_,⟨hl,C,j⟩,rfl,rfl⟩;exact⟨Xak _,af,λd hd=>by have:=R d hd;omega,rfl,by simp[Nat.mod_one]⟩
def ZLH (a b:List UInt8) (i:Nat) (t:Nat×List Int):TM:=[(0, .v .s a),(1, .v .s b),(5, .ref 0 0 (a.length+b.length+1) none),(18, .v (.i .i64) (a.length:Int)),(19, .v (.i .i64) (i:Int)),(49, .v (.i .i64) ((a.length+b.length:Nat):Int)),(50, .v (.i .i64) (t.1:Int))]
def ZC9 (a b:List UInt8) (i:Nat) (out:List Int) (aq:a.length<=300000) (ar:b.length<=300000) (ak:out.length=a.length+b.length+1) (ab:N90 out) (hW:dv out<10^(a.length+b.length)):
 LoopOK prog Zai 0 ⟨64,0,80⟩ (ZaN Tryz.f64 12) (ZLH a b i (0,out)) [.row (.i .i64) out true]
 (λe tm hp=>e= .exit 4/\ ∃ (o:List Int) (X:SV),(o.length=a.length+b.length+1/\D9 o/\dv o=dv out)/\tm=(51,X)::ZLH a b i (a.length+b.length,o)/\hp=[.row (.i .i64) o true]):=by
 let⟨L,hL⟩: ∃L,a.length+b.length=L:=⟨_,rfl⟩
 have au:L<=600000:=oM;refine Zaq Zaa rfl (ZLH a b i) (λt=> [.row (.i .i64) t.2 true])
  (λt=>t.1<=L/\t.2.length=L+1/\D9 (t.2.take t.1)/\(∃x r,t.2.drop t.1=x::r/\0<=x/\x<=100/\N90 r)/\dv t.2=dv out) (λt=>L-t.1) ?_ (0,out) ?_ Zaj
 rintro⟨k,o⟩ ⟨hk,hl,h9,⟨x,r,R,ad,av,hr⟩,j⟩;simp only at hk hl h9 R j;have C:k<o.length:=oM;have aa:=XaM C;rw[R]at aa;have ex:=(List.cons.inj aa).1.symm;have er:=(List.cons.inj aa).2.symm;refine Xaa (λh=> ?_) (λh=> ?_);have ae:k<L:=by have h':=dT h;omega
 have I:k+1<o.length:=oM;let⟨y,r',U⟩: ∃y r',r=y::r':=⟨_,_,(er.symm.trans (XaM I))⟩
 have J:=XaM I;rw[er,U]at J;have ey:=(List.cons.inj J).1.symm;have al:=(List.cons.inj J).2.symm;have hy:=hr y (by rw[U];exact Xah);have af:N90 r':=λd hd=>hr d (by rw[U];exact Xai _ hd);have bk:(0:Int)<=(k:Int)/\(k:Int)<((a.length+b.length+1:Nat):Int):=oM;have ek:i64.wrap ((k:Int)+1)=((k+1:Nat):Int):=Zap oM oM;have ag:(0:Int)<=i64.wrap ((k:Int)+1)/\i64.wrap ((k:Int)+1)<((a.length+b.length+1:Nat):Int):=by rw[ek];omega
 have gx: ∀w:List Int,w[k]? =some x->w[0+(k:Int).toNat]? =some x:=λw hw=>by rw[Xag,Xab];exact hw
 have gy: ∀w:List Int,w[k+1]? =some y->w[0+(i64.wrap ((k:Int)+1)).toNat]? =some y:=λw hw=>by rw[ek,Xag,Xab];exact hw
 have qx:o[k]? =some x:=by rw[Xac C,ex]
 have qy:o[k+1]? =some y:=by rw[Xac I,ey]
 refine Xaa bk ?_;refine Exists.intro x (Xaa (gx o qx) ?_);refine Xaa (λh2=> ?_) (λh2=> ?_);have an:=dT h2;have e1:i64.wrap (y+i64.wrap (x.tdiv 10))=y+x/10:=by rw[Int.tdiv_eq_ediv_of_nonneg ad,Zap (x:=x/10) oM oM,Zap oM oM]
 have e2:x.tmod 10=x % 10:=Int.tmod_eq_emod_of_nonneg ad;refine Xaa ag ?_;refine Exists.intro y (Xaa (gy o qy) ?_);refine Xaa bk ?_;refine Exists.intro x (Xaa (gx o qx) ?_);refine Xaa dC ?_;refine Xaa ag ?_;refine Exists.intro y (Xaa (gy o qy) ?_);have ah:o.set (0+(i64.wrap ((k:Int)+1)).toNat) (i64.wrap (y+i64.wrap (x.tdiv 10)))=o.set (k+1) (y+x/10):=by rw[e1,ek,Xag,Xab]
 have ai:(o.set (0+(i64.wrap ((k:Int)+1)).toNat) (i64.wrap (y+i64.wrap (x.tdiv 10))))[k]? =some x:=by rw[ah,XaL oM];exact qx
 refine Xaa bk ?_;refine Exists.intro x (Xaa (gx _ ai) ?_);refine Xaa dC ?_;refine Xaa bk ?_;refine Exists.intro x (Xaa (gx _ ai) ?_);have eo:(o.set (k+1) (y+x/10)).set k (x % 10)=(o.set (0+(i64.wrap ((k:Int)+1)).toNat) (i64.wrap (y+i64.wrap (x.tdiv 10)))).set (0+(k:Int).toNat) (x.tmod 10):=by rw[ah,e2,Xag,Xab]
 have aj:k<(o.set (k+1) (y+x/10)).length:=by rw[Xap];exact C
 refine⟨(k+1,(o.set (k+1) (y+x/10)).set k (x % 10)),⟨ae,by show((o.set _ _).set _ _).length=_;rw[Xap,Xap];exact hl, ?_,⟨y+x/10,r', ?_,oM,oM,af⟩, ?_⟩,by show L-(k+1)<L-k;omega, ?_⟩;show D9 (((o.set (k+1) (y+x/10)).set k (x % 10)).take (k+1));intro d hd;rw[Xa2 (by rw[Xap];exact aj),XbK (Xae _),XbK oM,XbT]at hd;rcases XaO.1 hd with hd|hd;exact h9 d hd;rw[Xav.1 hd];omega;show((o.set (k+1) (y+x/10)).set k (x % 10)).drop (k+1)=_;rw[XbA oM,XaM (by rw[Xap];exact I),XbT,XbA oM,al];show dv ((o.set (k+1) (y+x/10)).set k (x % 10))=dv out;rw[Zui aj,Zui I,ey,List.getElem_set_ne oM,ex,<-j,XbB];have e3:=XbU x 10;generalize(10:Int)^k=p;have e4:x % 10=x-10*(x/10):=oM;rw[e4];grind;exact eO;have an:=dF h2;refine⟨(k+1,o),⟨ae,hl, ?_,⟨y,r', ?_,oM,oM,af⟩,j⟩,by show L-(k+1)<L-k;omega, ?_⟩;show D9 (o.take (k+1));intro d hd;rw[Xa2 C,ex]at hd;rcases XaO.1 hd with hd|hd;exact h9 d hd;rw[Xav.1 hd];omega;show o.drop (k+1)=_;rw[er,U];exact eO;have he:k=L:=by have h':=dF h;omega
 subst he;have h1:=ZGq C;rw[Xax oM,ex]at h1;have h2:=Zqq λd hd=>(h9 d hd).1;have hx:x=0:=by rcases Int.lt_or_le x 1 with h|h;omega;have h3:=Xbt h (Xbw (show(0:Int)<10^k from Xb0 dC));rw[hL]at hW;omega
 refine⟨rfl,o, .v .b (decide ((k:Int)<((a.length+b.length:Nat):Int))),⟨oM, ?_,j⟩, ?_,rfl⟩;intro d hd;rw[<-Xbc k o,R]at hd;rcases XaO.1 hd with hd|hd;exact h9 d hd;have ao:r=[]:=by have:(o.drop k).length=1:=(by rw[XbC];omega);rw[R]at this;exact Xbv.1 (by simpa using this)
 rw[ao,Xav]at hd;omega;rw[<-hL];refine⟨Xak _,by show out.length=L+1;omega,λd hd=>by simp at hd, ?_,rfl⟩;cases out with|nil=>simp at ak|cons x r=>have h1:=ab x Xah;exact⟨x,r,rfl,h1.1,oM,λd hd=>ab d (Xai _ hd)⟩
def ZLN (a b:List UInt8) (t:Nat×List Int):TM:=[(0, .v .s a),(1, .v .s b),(5, .ref 0 0 (a.length+b.length+1) none),(18, .v (.i .i64) (a.length:Int)),(19, .v (.i .i64) (t.1:Int))]
def ZA0 (a b:List UInt8) (C:Dg a) (I:Dg b) (J:a.length<=300000) (R:b.length<=300000):PureOK prog Zai 64 [.v .s a, .v .s b] (λV=>V= .v .s (decDigits (dec a*dec b))):=by
 refine Zae Zaa func64 ?_;have w1:i64.wrap (i64.wrap ((a.length:Int)+(b.length:Int))+1)=((a.length+b.length+1:Nat):Int):=by rw[Zap (x:=(a.length:Int)+(b.length:Int)) oM oM,Zap oM oM];omega
 have w2: ∀x:Int,x=((a.length+b.length+1:Nat):Int)->0<=x/\x<=x/\(8:Int)*x<=281474976710656/\x<9223372036854775808:=λx hx=>oM
 have w3:a.length+b.length+1=(i64.wrap (i64.wrap ((a.length:Int)+(b.length:Int))+1)).toNat:=by rw[w1];omega
 refine Xaa (w2 _ w1) ?_;refine Zaq Zaa rfl (ZLN a b) (λt=> [.row (.i .i64) t.2 true])
  (λt=>t.1<=a.length/\t.2.length=a.length+b.length+1/\D9 t.2/\dv t.2=((dec a % 10^t.1*dec b:Nat):Int)) (λt=>a.length-t.1) ?_ (0,List.replicate (a.length+b.length+1) 0) ?_ ?_
 rintro⟨i,out⟩ ⟨hi,hl,h9,j⟩;simp only at hi hl h9 j;refine Xaa (λh=> ?_) (λh=> ?_);have U:i<a.length:=by have h':=dT h;omega
 refine(Zi5 a i C oM oM).mono ?_;rintro _ rfl;let⟨x,ex⟩: ∃d:Nat,dec a/10^i % 10=d:=⟨_,rfl⟩
 have aa:=Zgy (dec a) i;rw[ex]at aa;rw[ex];have hx:x<10:=by rw[<-ex];exact Nat.mod_lt _ dC
 refine((ZA2 a b i (x:Int) out I J R U oM oM hl h9).ent ?_).mono ?_;exact eO;rintro _ _ _ ⟨rfl,o1,X1,⟨l1,n1,v1⟩,rfl,rfl⟩;have ab:dv o1=((dec a % 10^(i+1)*dec b:Nat):Int):=by rw[v1,j,aa,Xbs,XbZ,Xa6,Xa6,Xa6,Int.natCast_pow];have ae:((10:Nat):Int)=10:=rfl;rw[ae,Int.mul_assoc]
 have hW:dv o1<10^(a.length+b.length):=by have h1:dec a % 10^(i+1)<10^a.length:=XaW (Nat.mod_lt _ (Nat.pow_pos dC)) (Xbd dC oM);have h2:=Nat.mul_lt_mul'' h1 (ZcO I);rw[<-Nat.pow_add]at h2;have h3:=Int.ofNat_lt.2 h2;rw[Int.natCast_pow]at h3;rw[ab];exact h3
 have ad:i64.wrap (((a.length+b.length+1:Nat):Int)-1)=((a.length+b.length:Nat):Int):=by rw[Zap oM oM];omega
 have bs:(0:Int)<=i64.wrap (((a.length+b.length+1:Nat):Int)-1)/\i64.wrap (((a.length+b.length+1:Nat):Int)-1)<=((a.length+b.length+1:Nat):Int):=by rw[ad];omega
 refine Xaa bs ?_;have af:((a.length+b.length:Nat):Int)=(((i64.wrap (((a.length+b.length+1:Nat):Int)-1)).toNat-0:Nat):Int):=by rw[ad,Xab];omega
 refine((ZC9 a b i o1 J R l1 n1 hW).ent ?_).mono ?_;exact eO;rintro _ _ _ ⟨rfl,o2,X2,⟨l2,n2,v2⟩,rfl,rfl⟩;refine⟨(i+1,o2),⟨U,l2,n2,by show dv o2=_;rw[v2,ab]⟩,by show a.length-(i+1)<a.length-i;omega, ?_⟩;exact eO;have he:i=a.length:=by have h':=dF h;omega
 subst he;rw[Xbz (ZcO C)]at j;refine Xaa (by show 0+(a.length+b.length+1)<=out.length;omega) ?_;have hs:sub out 0 (a.length+b.length+1)=out:=by rw[sub,XaP,Xax oM]
 have hr:=Zsp out h9 oM;rw[<-hs]at hr;refine hr.mono ?_;rintro _ rfl;rw[hs,j,Xab];rfl;refine⟨Xak _,sM,λd hd=> ?_, ?_⟩;have:=List.eq_of_mem_replicate hd;rw[this];decide;have: ∀k,dv (List.replicate k 0)=0:=by intro k;induction k with|zero=>rfl|succ k ih=>rw[List.replicate_succ,dv,ih];rfl
 show dv (List.replicate _ 0)=_;rw[this];simp[Nat.mod_one];refine Zbx rfl rfl ?_ ?_;exact⟨rfl,rfl,⟨rfl,w3,w3⟩,rfl,rfl,trivial⟩;exact⟨⟨(by show List.replicate (a.length+b.length+1) (0:Int)=List.replicate _ 0;rw[<-w3]),λ_=>rfl⟩,trivial⟩
def ZKQ (a b q:List UInt8) (i:Nat) (t:Nat×Nat):TM:=[(0, .v .s a),(1, .v .s b),(7, .v .s q),(8, .v .s (decDigits t.2)),(9, .v (.i .i64) (i:Int)),(10, .v (.i .u8) ((48+t.1:Nat):Int))]
def ZHa (a b q:List UInt8) (i R1:Nat) (R:Cn b) (U:0<dec b) (ad:b.length<=100000) (ae:R1<10*dec b):
 LoopOK prog Zai 0 ⟨94,0,53⟩ (ZaN Tryz.f94 8) (ZKQ a b q i (0,R1)) []
 (λe tm hp=>e= .exit 2/\ ∃ (X1 X2 X3 X4:SV),tm=(40,X1)::(39,X2)::(38,X3)::(37,X4)::ZKQ a b q i (R1/dec b,R1 % dec b)/\hp=[]):=by
 refine Zaq Zaa rfl (ZKQ a b q i) (λ_=> []) (λt=>R1=t.1*dec b+t.2) (λt=>t.2) ?_ (0,R1) ?_ Zaj;rintro⟨j,r⟩ C;simp only at C;have aa:r<10^(b.length+1):=by have h1:=ZcO R.2.1;rw[XbY];omega
 have af:=(Zcp oM).2 aa;have hc:=Zuy (decDigits r) b (Zb4 r) R oM oM;rw[Zaz]at hc;refine hc.mono ?_;rintro _ rfl;refine Xaa (λh=> ?_) (λh=> ?_);have J:=dT h;have ab:dec b<=r:=by rcases Xa8 r (dec b)with h1|h1;rw[Int.sign_eq_neg_one_of_neg oM]at J;exact absurd J dC;exact h1
 have hs:=ZuS (decDigits r) b (Zbj r) R.2.1 oM oM (by rw[Zaz];exact ab);rw[Zaz]at hs;refine hs.mono ?_;rintro _ rfl;have hj:j<9:=by rcases Xa8 j 9 with h1|h1;exact h1;have h2:9*dec b<=j*dec b:=Xbk _ h1;omega
 have eu:u8.wrap (((48+j:Nat):Int)+1)=((48+(j+1):Nat):Int):=by rw[Zfl oM oM];omega
 refine⟨(j+1,r-dec b), ?_,by show r-dec b<r;omega, ?_⟩;show R1=(j+1)*dec b+(r-dec b);rw[Xbs,Nat.one_mul];omega;refine Zbx rfl rfl ?_ ?_;exact⟨rfl,rfl,rfl,rfl,rfl,eu.symm,trivial⟩;exact trivial;have J:=dF h;have I:r<dec b:=by rcases Xa8 r (dec b)with h1|h1;exact h1;exact absurd (Int.sign_nonneg_iff.2 oM) J
 have e1:R1/dec b=j:=by rw[C,XbR,Nat.mul_add_div U,Nat.div_eq_of_lt I,Nat.add_zero]
 have e2:R1 % dec b=r:=by rw[C,XbR,Nat.mul_add_mod,Xbz I]
 rw[e1,e2];exact⟨rfl,_,_,_,_,rfl,rfl⟩;show R1=0*dec b+R1;omega
def ZoL (a b:List UInt8) (ha:Dg a) (hb:Cn b) (C:0<dec b) (ar:a.length<=100000) (ah:b.length<=100000):PureOK prog Zai 94 [.v .s a, .v .s b] (λV=>V= .tup [.v .s (decDigits (dec a/dec b)), .v .s (decDigits (dec a % dec b))]):=by
 refine Zae Zaa func94 ?_;have ai:=List.length_pos_iff.2 hb.1;let⟨fr,au⟩: ∃k,min a.length (b.length-1)=k:=⟨_,rfl⟩
 have ae:fr<=a.length:=oM;have U:(if i64.wrap ((b.length:Int)-1)<(a.length:Int)then i64.wrap ((b.length:Int)-1)else(a.length:Int))=(fr:Int):=by rw[Zap oM oM];split<;>omega
 have aj:(0:Int)<=(if i64.wrap ((b.length:Int)-1)<(a.length:Int)then i64.wrap ((b.length:Int)-1)else(a.length:Int))/\(if i64.wrap ((b.length:Int)-1)<(a.length:Int)then i64.wrap ((b.length:Int)-1)else(a.length:Int))<=(a.length:Int):=by rw[U];omega
 have eT:List.drop 0 (List.take (Int.toNat (if i64.wrap ((b.length:Int)-1)<(a.length:Int)then i64.wrap ((b.length:Int)-1)else(a.length:Int))) a)=a.take fr:=by rw[U,Xab,XaP]
 have ab:Dg (a.take fr):=λc I=>ha c (XaY I);have hS:=Zo3 ([48]++List.drop 0 (List.take (Int.toNat (if i64.wrap ((b.length:Int)-1)<(a.length:Int)then i64.wrap ((b.length:Int)-1)else(a.length:Int))) a)) (by rw[eT];exact Dg.app (λc I=>by rw[Xav.1 I];decide) ab) sM (by rw[eT];simp;omega);rw[show dec ([48]++List.drop 0 (List.take (Int.toNat (if i64.wrap ((b.length:Int)-1)<(a.length:Int)then i64.wrap ((b.length:Int)-1)else(a.length:Int))) a))=dec (a.take fr)from by rw[eT];exact Zm6 ab]at hS;have ak:dec (a.take fr)<dec b:=by have h1:=ZcO ab;rw[Xaz,XaU ae]at h1;by_cases al:1<b.length;exact XaW h1 (XaK (Xbd dC oM) (hb.ge al));have:fr=0:=oM;subst this;exact C
 refine Xaa aj ?_;refine Xaa (by show 1+(List.drop 0 (List.take (Int.toNat (if i64.wrap ((b.length:Int)-1)<(a.length:Int)then i64.wrap ((b.length:Int)-1)else(a.length:Int))) a)).length<=_;rw[eT,Xaz];omega) ?_;refine hS.mono ?_;rintro _ rfl;refine Zaq Zaa rfl (λt=> [(0, .v .s a),(1, .v .s b),(7, .v .s t.2.1),(8, .v .s (decDigits t.2.2)),(9, .v (.i .i64) (t.1:Int))]) (λ_=> [])
  (λt=>t.1<=a.length/\Dg t.2.1/\t.2.1≠ []/\t.2.1.length<=t.1+1/\t.2.2<dec b/\dec (a.take t.1)=dec t.2.1*dec b+t.2.2) (λt=>a.length-t.1) ?_ (fr,[48],dec (a.take fr)) ?_ ?_
 rintro⟨i,q,R⟩ ⟨hi,hq,af,an,hR,j⟩;simp only at hi hq af an hR j;refine Xaa (λh=> ?_) (λh=> ?_);have J:i<a.length:=by have h':=dT h;omega
 let⟨c,I⟩: ∃c,a[i]=c:=⟨_,rfl⟩
 have ag:=ha _ (XaI J);rw[I]at ag;have ei:i64.wrap ((i:Int)+1)=((i+1:Nat):Int):=Zap oM oM;have eS:List.drop (i:Int).toNat (List.take (i64.wrap ((i:Int)+1)).toNat a)=[c]:=by rw[ei,Xab,Xab,Xa2 J,I];exact List.drop_left' (by rw[Xaz];omega)
 have av:=(Zcp ai).2 (Nat.lt_trans hR (ZcO hb.2.1));have hS:=Zo3 (decDigits R++List.drop (i:Int).toNat (List.take (i64.wrap ((i:Int)+1)).toNat a)) (by rw[eS];exact Dg.app (Zbj R) (λx hx=>by rw[Xav.1 hx];exact ag)) (by rw[eS];simp) (by rw[eS];simp;omega);rw[show dec (decDigits R++List.drop (i:Int).toNat (List.take (i64.wrap ((i:Int)+1)).toNat a))=R*10+(c.toNat-48)from by rw[eS,ZgS,Zaz]]at hS;let⟨R1,ao⟩: ∃n,R*10+(c.toNat-48)=n:=⟨_,rfl⟩
 rw[ao]at hS;have aa:R1<10*dec b:=oM;refine Xaa (by show 0<=(i:Int)/\(i:Int)<=i64.wrap ((i:Int)+1)/\i64.wrap ((i:Int)+1)<=(a.length:Int);rw[ei];omega) ?_;refine Xaa (by show(decDigits R).length+(List.drop (i:Int).toNat (List.take (i64.wrap ((i:Int)+1)).toNat a)).length<=_;rw[eS];show(decDigits R).length+1<=_;omega) ?_;refine hS.mono ?_;rintro _ rfl;refine((ZHa a b q i R1 hb C ah aa).ent ?_).mono ?_;exact eO;rintro _ _ _ ⟨rfl,X1,X2,X3,X4,rfl,rfl⟩;have ad:=Nat.div_lt_of_lt_mul (by rw[XbR];exact aa);let⟨d,hd⟩: ∃d,R1/dec b=d:=⟨_,rfl⟩
 have aq:=Nat.div_add_mod R1 (dec b);rw[hd]at ad aq;have aw:q++ [UInt8.ofNat (48+d)]=q++ [UInt8.ofNat ((48+R1/dec b:Nat):Int).toNat]:=by rw[hd,Xab]
 refine Xaa (by show(0:Int)<=((48+R1/dec b:Nat):Int)/\((48+R1/dec b:Nat):Int)<128;rw[hd];omega) ?_;refine Xaa (by show q.length+1<=9223372036854775807;omega) ?_;refine⟨(i+1,q++ [UInt8.ofNat (48+d)],R1 % dec b),⟨J, ?_,sM, ?_,Nat.mod_lt _ C, ?_⟩,by show a.length-(i+1)<a.length-i;omega, ?_⟩;exact hq.app (λx hx=>by rw[Xav.1 hx,Zd6 ad];omega);show(q++ [_]).length<=i+1+1;simp;omega;show dec (a.take (i+1))=dec (q++ [UInt8.ofNat (48+d)])*dec b+R1 % dec b;rw[Xa2 J,I,ZgS,ZgS,Zd6 ad,j,Xbe];have e3:(dec q*10+d)*dec b=dec q*dec b*10+dec b*d:=by rw[Xbs,XbR d,XbW,XbR 10,<-XbW]
 rw[e3,Xbs];omega;exact eO;have he:i=a.length:=by have h':=dF h;omega
 subst he;rw[Xa1]at j;refine(Zo3 q hq af oM).mono ?_;rintro _ rfl;have e1:dec a/dec b=dec q:=by rw[j,XbR,Nat.mul_add_div C,Nat.div_eq_of_lt hR,Nat.add_zero]
 have e2:dec a % dec b=R:=by rw[j,XbR,Nat.mul_add_mod,Xbz hR]
 show SV.tup [.v .s (decDigits (dec q)), .v .s (decDigits R)]=_;rw[e1,e2];refine⟨ae,λc I=>by rw[Xav.1 I];decide,sM,by show 1<=fr+1;omega,ak, ?_⟩;show dec (a.take fr)=dec [48]*dec b+dec (a.take fr);rw[ZkQ];simp;exact eO
def Zp2 n:(decDigits n==[48])=decide (n=0):=by by_cases h:n=0;subst h;rw[decDigits_one dC];rfl;rw[decide_eq_false h];cases C:(decDigits n==[48])with|false=>rfl|true=>have I:decDigits n=[48]:=(by simpa using C);have j:=Zaz n;rw[I]at j;exact absurd j.symm h
def ZC0 (a b:List UInt8) (ha:Cn a) (hb:Cn b) (C:a.length<=90000) (I:b.length<=90000):PureOK prog Zai 93 [.v .s a, .v .s b] (λV=>V= .v .s (decDigits (Nat.gcd (dec a) (dec b)))):=by
 refine Zae Zaa func93 ?_;let⟨L,U⟩: ∃L:Nat,90000=L:=⟨_,rfl⟩
 rw[U]at C I;have aa:1<=L:=oM;have ab:=XaW (ZcO ha.2.1) (Xbd dC C);have ad:=XaW (ZcO hb.2.1) (Xbd dC I);have hL: ∀ {n:Nat},n<10^L->(decDigits n).length<=L:=λh=>(Zcp aa).2 h
 generalize(10:Nat)^L=P at*;refine Zaq Zaa rfl (λt=> [(0, .v .s (decDigits t.1)),(1, .v .s (decDigits t.2))]) (λ_=> [])
  (λt=>t.1<P/\t.2<P/\Nat.gcd t.1 t.2=Nat.gcd (dec a) (dec b)) (λt=>t.2) ?_ (dec a,dec b) ?_ ?_
 rintro⟨x,y⟩ ⟨hx,hy,R⟩;simp only at hx hy R;have hz:=Zp2 y;refine Xaa (λh=> ?_) (λh=> ?_);have J:=h;have j:0<y:=by rcases Nat.eq_zero_or_pos y with h0|h0;rw[hz,decide_eq_true h0]at J;cases J;exact h0
 have hD:=ZoL (decDigits x) (decDigits y) (Zbj x) (Zb4 y) (by rw[Zaz];exact j) (by have:=hL hx;omega) (by have:=hL hy;omega);rw[Zaz,Zaz]at hD;refine hD.mono ?_;rintro _ rfl;have hr:x % y<y:=Nat.mod_lt _ j;refine⟨(y,x % y),⟨hy,by show x % y<P;omega, ?_⟩,hr, ?_⟩;show Nat.gcd y (x % y)=_;rw[<-R,Nat.gcd_comm y (x % y),<-Nat.gcd_rec y x];exact Nat.gcd_comm y x;exact eO;have J:=h;have j:y=0:=by rcases Nat.eq_zero_or_pos y with h0|h0;exact h0;rw[hz,decide_eq_false oM]at J;cases J
 subst j;rw[Nat.gcd_zero_right]at R;show SV.v .s (decDigits x)=_;rw[R];exact⟨ab,ad,rfl⟩;refine Zbx rfl rfl ?_ ?_;exact⟨ha.eq,hb.eq,trivial⟩;exact trivial
def dl (n:Nat):Nat:=(decDigits n).length
def Zxu (n:Nat):1<=dl n:=List.length_pos_iff.2 (ZfV n)
theorem ZF3 (n:Nat):n<10^dl n:=(Zcp (Zxu n)).1 (Xae _)
theorem ZlL {n k:Nat} (j:1<=k) (h:n<10^k):dl n<=k:=(Zcp j).2 h
def Zd4 (m n:Nat):dl (m*n)<=dl m+dl n:=by refine ZlL (by have:=Zxu m;omega) ?_;simp_all [Nat.pow_add,Nat.mul_lt_mul'',ZF3]
def ZDZ (m n:Nat):dl (m+n)<=max (dl m) (dl n)+1:=by refine ZlL oM ?_;grind [XbY,XaW,ZF3,Xbd,Nat.le_max_left,Nat.le_max_right]
def Zf0 {m n:Nat} (h:m<=n):dl m<=dl n:=ZlL (Zxu n) (Nat.lt_of_le_of_lt h (ZF3 n))
def dz (q:Rat) (k:Nat):Prop:=dl q.num.natAbs<=k/\dl q.den<=k
theorem ZiD {n:Int} {d k:Nat} (hd:0<d) (j:dl n.natAbs<=k) (C:dl d<=k):dz (Rat.divInt n d) k:=by
 let⟨I,R⟩:=ZeP (n:=n) (d:=(d:Int)) oM
 constructor;rw[I];exact XaK (Zf0 (Int.natAbs_ediv_le_natAbs _ _)) j;have J:(Rat.divInt n d).den<=d:=by have:=Int.ediv_le_self (a:=(d:Int)) (Int.gcd n d:Int) oM;omega
 exact XaK (Zf0 J) C
def Zl1 {p q:Rat} {k m:Nat} (hp:dz p k) (j:dz q m):dz (p+q) (k+m+1):=by
 rw[<-Zku,<-Xa6];let⟨C,I⟩:=hp
 let⟨J,R⟩:=j
 have U:=Zd4 p.num.natAbs q.den;have h2:=Zd4 q.num.natAbs p.den;have h3:=Zd4 p.den q.den;have h4:=ZDZ (p.num.natAbs*q.den) (q.num.natAbs*p.den);refine ZiD (Nat.mul_pos p.den_pos q.den_pos) ?_ oM;refine XaK (Zf0 (Int.natAbs_add_le _ _)) ?_;grind [XbD,Xa3]
def ZlR {p q:Rat} {k m:Nat} (hp:dz p k) (j:dz q m):dz (p*q) (k+m):=by
 rw[<-Zkb,<-Xa6];let⟨C,I⟩:=hp
 let⟨J,R⟩:=j
 have U:=Zd4 p.num.natAbs q.num.natAbs;have h3:=Zd4 p.den q.den;refine ZiD (Nat.mul_pos p.den_pos q.den_pos) ?_ oM;grind [XbD]
def ZlO {p:Rat} {k:Nat} (hp:dz p k):dz (-p) k:=by
 let⟨C,j⟩:=hp
 refine⟨?_,j⟩;simp_all
def Zbe {p:Rat} {k m:Nat} (h:k<=m) (hp:dz p k):dz p m:=⟨XaK hp.1 h,XaK hp.2 h⟩
def ZEw {p:Rat} {k:Nat} (h:k<=2000) (hp:dz p k):ZAQ p=true:=ZDG.2 ⟨XaK hp.1 h,XaK hp.2 h⟩
def ZMt (c:UInt8):decide ((c.toNat:Int)=45)=(some c==some (45:UInt8)):=by rw[XbQ,decide_eq_true_eq,beq_iff_eq,Xaj];constructor;intro h;exact UInt8.toNat_inj.1 (by show c.toNat=45;omega);rintro rfl;rfl
def ZMz (c:UInt8):decide ((c.toNat:Int)=47)=Nat.beq c.toNat (47:UInt8).toNat:=by rw[XbQ,decide_eq_true_eq,Nat.beq_eq];grind
def Zti m {x y j C} (I:x=j) (J:y=C):SV.tup [.v .b m, .v .s x, .v .s y]=SV.tup [.v .b m, .v .s j, .v .s C]:=by rw[I,J]
def Zhi (q:Rat) {k:Nat} (hk:k<=1000000) (hz:dz q k):PureOK prog Zai 63 [.v .s (Zbh q)] (λV=>V= .tup [.v .b (decide (q.num<0)), .v .s (decDigits q.num.natAbs), .v .s (decDigits q.den)]):=by
 refine Zae Zaa func63 ?_;let⟨z1,z2⟩:=hz
 have U:=Zik q;have hN:=Zqk q;have j:=Zkh q.num.natAbs q.den;have ab:(decDigits q.num.natAbs++ZfL q.den).length<=3000000:=by have h1:(decDigits q.num.natAbs).length<=k:=z1;have h2:(decDigits q.den).length<=k:=z2;have h3:(ZfL q.den).length<=k+1:=(by unfold ZfL;cases decide (q.den=1)with|true=>simp|false=>simp only[Xao];omega);rw[Xal];omega
 let⟨S,eS⟩: ∃S,decDigits q.num.natAbs++ZfL q.den=S:=⟨_,rfl⟩
 rw[eS]at U j ab;let⟨a,ea⟩: ∃a,Zbh q=a:=⟨_,rfl⟩
 rw[ea]at U hN|-;have aa:a≠ []:=by rintro rfl;have h0:=Zlw q.num.natAbs q.den;rw[eS,<-U]at h0;have h1:ZCL []=[]:=rfl;have:decDigits q.num.natAbs++ZfL q.den=[]:=(by rw[eS,<-U,h1]);exact ZfV _ (List.append_eq_nil_iff.1 this).1
 let⟨c,l,I⟩: ∃c l,a=c::l:=List.exists_cons_of_ne_nil aa
 have ad:a[(0:Int).toNat]? =some c:=by rw[I];rfl
 have C:decide ((c.toNat:Int)=45)=decide (q.num<0):=by rw[ZMt,<-hN,I];rfl
 let⟨m,hm⟩: ∃m,decide (q.num<0)=m:=⟨_,rfl⟩
 rw[hm]at C hN|-;refine⟨c,Xby 0,ad, ?_⟩;refine Xaa (λh=> ?_) (λh=> ?_);have h':=C.symm.trans h;refine Xaa (show 0<=(1:Int)/\(1:Int)<=(a.length:Int)from⟨dC,by rw[I];simp only[Xao];omega⟩) ?_;have eA:(a.take a.length).drop (1:Int).toNat=S:=by rw[Xa1,<-U,ZCL,hN,h'];rfl
 rotate_left 1
 have h':=C.symm.trans h;have eA:a=S:=by rw[<-U,ZCL,hN,h']
 all_goals
  refine Zaq Zaa rfl (λ(i:Nat)=> [(5, .v .s S),(6, .v .b m),(16, .v (.i .i64) (S.length:Int)),(17, .v (.i .i64) (i:Int))]) (λ_=> [])
   (λi=>i<=S.length/\Zo8 (S.drop i) 47 i=Zo8 S 47 0) (λi=>S.length-i) ?_ 0 ?_ ?_
  ·rintro i ⟨hi,he⟩
   refine Xaa (λh=> ?_) (λh=> ?_)
   ·have J:i<S.length:=by have h':=dT h;omega
    generalize hx:S[i]=x
    have gx:S[(i:Int).toNat]? =some x:=by rw[Xab,Xac J,hx]
    rw[XaM J,hx,Zo8,<-ZMz]at he
    refine⟨x,XaG i,gx, ?_⟩
    have wi:i64.wrap ((i:Int)+1)=((i+1:Nat):Int):=Zap oM oM
    refine Xaa (λh2=> ?_) (λh2=> ?_)
    ·have R:=h2
     rw[R]at he
     simp only at he
     have hC:=ZAw he.symm
     rw[hC]at j
     refine Xaa (show 0<=(i:Int)/\(i:Int)<=(S.length:Int)by omega) ?_
     refine Xaa (show 0<=i64.wrap ((i:Int)+1)/\i64.wrap ((i:Int)+1)<=(S.length:Int)by rw[wi];omega) ?_
     cases hd:decide (q.den=1)with
     |true=>rw[hd]at j;simp at j
     |false=>
      rw[hd]at j
      simp only[Prod.mk.injEq]at j
      have e1:=j.1
      have e2:List.drop (i64.wrap ((i:Int)+1)).toNat (S.take S.length)=decDigits q.den:=by
       rw[wi,Xab,Xa1];exact j.2.1
      exact Zti m e1 e2
    ·have R:decide ((x.toNat:Int)=47)=false:=h2
     rw[R]at he
     refine⟨i+1,⟨J,he⟩,by show S.length-(i+1)<S.length-i;omega, ?_⟩
     exact eO
   ·have ae:i=S.length:=by have h': ¬ (i:Int)<(S.length:Int):=dF h;omega
    rw[List.drop_of_length_le oM]at he
    have hC:=ZqQ he.symm
    rw[hC]at j
    cases hd:decide (q.den=1)with
    |false=>rw[hd]at j;simp at j
    |true=>
     rw[hd]at j
     simp only[Prod.mk.injEq]at j
     have e1:=j.1
     have e2:[49]=decDigits q.den:=by
      rw[dT hd,decDigits_one dC];rfl
     exact Zti m e1 e2
  ·exact⟨Xak _,rfl⟩
  ·refine Zbx rfl rfl ?_ ?_
   ·exact⟨eA.symm,C.symm,by rw[<-eA];rfl,rfl,trivial⟩
   ·exact trivial
def ZyH {n d:Nat} m (hn:n≠0) (hd:0<d):Zbh (Rat.divInt (sg m (n:Int)) (d:Int))=mns m (decDigits (n/Nat.gcd n d)++ZfL (d/Nat.gcd n d)):=by
 let⟨j,R⟩:=ZeP (n:=sg m (n:Int)) (d:=(d:Int)) oM
 have U:(Int.gcd (sg m (n:Int)) (d:Int))=Nat.gcd n d:=by grind [Int.gcd,ZuT]
 rw[U]at j R;have C:0<Nat.gcd n d:=Nat.gcd_pos_of_pos_right _ hd;let⟨k,I⟩:=Nat.gcd_dvd_left n d
 have J:=Nat.div_eq_of_eq_mul_right C I;have aa:k≠0:=by rintro rfl;exact hn (by rw[I,Nat.mul_zero])
 have e3:sg m (n:Int)/(Nat.gcd n d:Int)=sg m (k:Int):=by have hc:(n:Int)=(Nat.gcd n d:Int)*(k:Int):=(by rw[<-Xa6,<-I]);rw[hc];cases m with|true=>simp[sg];rw[<-Int.mul_neg,Int.mul_ediv_cancel_left _ oM]|false=>simp[sg];grind
 rw[e3]at j;have e4:(Rat.divInt (sg m (n:Int)) (d:Int)).den=d/Nat.gcd n d:=by omega
 rw[Zbh,j,e4,J,ZuT,Xa3];have e5:decide (sg m (k:Int)<0)=m:=by cases m with|true=>exact decide_eq_true (by simp[sg];omega)|false=>exact decide_eq_false (by simp only[sg];omega)
 rw[e5]
def Zjo (m:Bool) (n d:Nat) (hd:0<d) (I:dl n<=90000) (C:dl d<=90000):PureOK prog Zai 65 [.v .b m, .v .s (decDigits n), .v .s (decDigits d)] (λV=>V= .v .s (Zbh (Rat.divInt (sg m (n:Int)) (d:Int)))):=by
 refine Zae Zaa func65 ?_;have hz:=Zp2 n;refine Xaa (λh=> ?_) (λh=> ?_);have R:=h;rw[hz]at R;have h0:=dT R;subst h0;have e:sg m ((0:Nat):Int)=0:=by cases m<;>rfl
 rw[e,Rat.zero_divInt,ZhS];rfl;have R:(decDigits n==[48])=false:=h;rw[hz]at R;have hn:n≠0:=dF R;have U:0<Nat.gcd n d:=Nat.gcd_pos_of_pos_right _ hd;have hG:=ZC0 (decDigits n) (decDigits d) (Zb4 _) (Zb4 _) I C;rw[Zaz,Zaz]at hG;have ad:dl (Nat.gcd n d)<=90000:=XaK (Zf0 (Nat.gcd_le_right _ hd)) C;have ae:(decDigits (Nat.gcd n d)).length<=90000:=ad;have af:(decDigits n).length<=90000:=I;have ag:(decDigits d).length<=90000:=C;have hN:=ZoL (decDigits n) (decDigits (Nat.gcd n d)) (Zbj _) (Zb4 _) (by rw[Zaz];exact U) oM oM;have hD:=ZoL (decDigits d) (decDigits (Nat.gcd n d)) (Zbj _) (Zb4 _) (by rw[Zaz];exact U) oM oM;rw[Zaz,Zaz]at hN hD;rw[ZyH m hn hd];have aa:dl (n/Nat.gcd n d)<=90000:=XaK (Zf0 (Nat.div_le_self _ _)) I;have ab:dl (d/Nat.gcd n d)<=90000:=XaK (Zf0 (Nat.div_le_self _ _)) C;have hc:=ZMA (Zb4 (d/Nat.gcd n d));rw[Zaz]at hc;have hf:ZfL (d/Nat.gcd n d)=match decide (d/Nat.gcd n d=1)with|true=> []|false=>47::decDigits (d/Nat.gcd n d):=rfl
 rw[<-hc]at hf;unfold dl at aa ab;refine hG.mono ?_;rintro _ rfl;refine hN.mono ?_;rintro _ rfl;refine hD.mono ?_;rintro _ rfl;obtain⟨N,eN⟩: ∃x,decDigits (n/Nat.gcd n d)=x:=⟨_,rfl⟩;obtain⟨D,eD⟩: ∃x,decDigits (d/Nat.gcd n d)=x:=⟨_,rfl⟩;rw[eN]at aa|-;rw[eD]at ab hf|-;let⟨F,eF⟩: ∃x,ZfL (d/Nat.gcd n d)=x:=⟨_,rfl⟩
 rw[eF]at hf|-;cases m with|true=>refine Xaa (λ_=> ?_) (λh=>nomatch h);refine Xaa (by show 1+N.length<=9223372036854775807;omega) ?_;refine Xaa (λJ=> ?_) (λJ=> ?_);have j:=J;rw[j]at hf;simp only at hf;rw[hf,XaQ];rfl;have j:=J;rw[j]at hf;simp only at hf;refine Xaa (by show(45::N).length+1<=9223372036854775807;simp only[Xao];omega) ?_;refine Xaa (by show((45::N)++ [47]).length+D.length<=9223372036854775807;simp only[Xal,Xao,Xbq];omega) ?_;rw[hf];show SV.v .s (((45::N)++ [47])++D)=SV.v .s (45::(N++47::D));simp|false=>refine Xaa (λh=>nomatch h) (λ_=> ?_);refine Xaa (λJ=> ?_) (λJ=> ?_);have j:=J;rw[j]at hf;simp only at hf;rw[hf,XaQ];rfl;have j:=J;rw[j]at hf;simp only at hf;refine Xaa (by show N.length+1<=9223372036854775807;omega) ?_;refine Xaa (by show(N++ [47]).length+D.length<=9223372036854775807;simp only[Xal,Xao,Xbq];omega) ?_;rw[hf];show SV.v .s ((N++ [47])++D)=SV.v .s (N++47::D);simp
def ZdU (m n:Nat) (hm:dl m<=300000) (hn:dl n<=300000):PureOK prog Zai 64 [.v .s (decDigits m), .v .s (decDigits n)] (λV=>V= .v .s (decDigits (m*n))):=by have h:=ZA0 (decDigits m) (decDigits n) (Zbj _) (Zbj _) hm hn;rw[Zaz,Zaz]at h;exact h
def ZAJ (m n:Nat) (hm:dl m<=900000) (hn:dl n<=900000):PureOK prog Zai 66 [.v .s (decDigits m), .v .s (decDigits n)] (λV=>V= .v .s (decDigits (m+n))):=by have h:=ZDP (decDigits m) (decDigits n) (Zbj _) (Zbj _) hm hn;rw[Zaz,Zaz]at h;exact h
def Zpq (m n:Nat) (hm:dl m<=900000) (hn:dl n<=900000) (h:n<=m):PureOK prog Zai 68 [.v .s (decDigits m), .v .s (decDigits n)] (λV=>V= .v .s (decDigits (m-n))):=by have h:=ZuS (decDigits m) (decDigits n) (Zbj _) (Zbj _) hm hn (by rw[Zaz,Zaz];exact h);rw[Zaz,Zaz]at h;exact h
def Zza (m n:Nat) (hm:dl m<=900000) (hn:dl n<=900000):PureOK prog Zai 67 [.v .s (decDigits m), .v .s (decDigits n)] (λV=>V= .v (.i .i64) ((m:Int)-(n:Int)).sign):=by have hm:(decDigits m).length<=900000:=hm;have hn:(decDigits n).length<=900000:=hn;have h:=Zuy (decDigits m) (decDigits n) (Zb4 _) (Zb4 _) oM oM;rw[Zaz,Zaz]at h;exact h
def ZhQ (p q:Rat) {k:Nat} (hk:k<=44990) (hp:dz p k) (hq:dz q k):PureOK prog Zai 28 [.v .s (Zbh p), .v .s (Zbh q)] (λV=>V= .v .s (Zbh (p+q))):=by
 have hP:=Zhi p oM hp;have hQ:=Zhi q oM hq;let⟨p1,p2⟩:=hp
 let⟨q1,q2⟩:=hq
 have l1:=Zd4 p.num.natAbs q.den;have l2:=Zd4 q.num.natAbs p.den;have l3:=Zd4 p.den q.den;have hz:=Nat.mul_pos p.den_pos q.den_pos;have j:=Zku p q;have sp:=Zl6 p.num;have sq:=Zl6 q.num;let⟨m,hm⟩: ∃m,decide (p.num<0)=m:=⟨_,rfl⟩
 let⟨w,hw⟩: ∃w,decide (q.num<0)=w:=⟨_,rfl⟩
 rw[hm]at hP sp;rw[hw]at hQ sq;have hX:=ZdU p.num.natAbs q.den oM oM;have hY:=ZdU q.num.natAbs p.den oM oM;have hZ:=ZdU p.den q.den oM oM;rw[<-Xa6,<-sp,<-sq]at j;let⟨X,eX⟩: ∃x,p.num.natAbs*q.den=x:=⟨_,rfl⟩
 let⟨Y,eY⟩: ∃x,q.num.natAbs*p.den=x:=⟨_,rfl⟩
 let⟨Z,eZ⟩: ∃x,p.den*q.den=x:=⟨_,rfl⟩
 have cX:(p.num.natAbs:Int)*(q.den:Int)=(X:Int):=by rw[<-Xa6,eX]
 have cY:(q.num.natAbs:Int)*(p.den:Int)=(Y:Int):=by rw[<-Xa6,eY]
 have sm: ∀ (b:Bool) (x y:Int),sg b x*y=sg b (x*y):=λb x y=>by cases b<;>simp[sg,Int.neg_mul]
 rw[sm,sm,cX,cY]at j;rw[eX]at hX l1;rw[eY]at hY l2;rw[eZ]at hZ l3 hz j;have hS:=ZDZ X Y;refine Zae Zaa func28 ?_;refine hP.mono ?_;rintro _ rfl;refine hQ.mono ?_;rintro _ rfl;refine hX.mono ?_;rintro _ rfl;refine hY.mono ?_;rintro _ rfl;refine hZ.mono ?_;rintro _ rfl;refine Xaa (λh=> ?_) (λh=> ?_);have h':=h;have C:m=w:=by simpa using h'
 subst C;refine(ZAJ X Y oM oM).mono ?_;rintro _ rfl;have J:sg m (X:Int)+sg m (Y:Int)=sg m ((X+Y:Nat):Int):=by cases m<;>simp only[sg]<;>omega
 rw[J]at j;have I:=Zjo m (X+Y) Z hz oM oM;rw[j]at I;refine I.mono ?_;rintro _ rfl;rfl;have h':=h;have C:m= !w:=by cases m<;>cases w<;>first|rfl|cases h'
 refine(Zza X Y oM oM).mono ?_;rintro _ rfl;refine Xaa (λh2=> ?_) (λh2=> ?_);have R:=dT h2;have R:=Int.sign_neg_iff.1 R;refine(Zpq Y X oM oM oM).mono ?_;rintro _ rfl;have J:sg m (X:Int)+sg w (Y:Int)=sg w ((Y-X:Nat):Int):=by rw[C];cases w<;>simp only[sg,Bool.not_true,Bool.not_false]<;>omega
 rw[J]at j;have I:=Zjo w (Y-X) Z hz (XaK (Zf0 (Nat.sub_le _ _)) oM) oM;rw[j]at I;refine I.mono ?_;rintro _ rfl;rfl;have U:=dF h2;have U: ¬ (X:Int)-(Y:Int)<0:=λh=>U (Int.sign_neg_iff.2 h);refine(Zpq X Y oM oM oM).mono ?_;rintro _ rfl;have J:sg m (X:Int)+sg w (Y:Int)=sg m ((X-Y:Nat):Int):=by rw[C];cases w<;>simp only[sg,Bool.not_true,Bool.not_false]<;>omega
 rw[J]at j;have I:=Zjo m (X-Y) Z hz (XaK (Zf0 (Nat.sub_le _ _)) oM) oM;rw[j]at I;refine I.mono ?_;rintro _ rfl;rfl
def ZB1 p:Rat.divInt (-p.num) (p.den:Int)= -p:=by rw[<-Rat.neg_divInt,Rat.num_divInt_den]
def ZDM (p:Rat) {k:Nat} (R:k<=44990) (hp:dz p k):PureOK prog Zai 69 [.v .s (Zbh p)] (λV=>V= .v .s (Zbh (-p))):=by
 have j:=Zhi p oM hp;let⟨U,p2⟩:=hp
 have sp:=Zl6 p.num;have C:=ZB1 p;let⟨m,hm⟩: ∃m,decide (p.num<0)=m:=⟨_,rfl⟩
 rw[hm]at j sp;have J: -p.num=sg (!m) (p.num.natAbs:Int):=by have: -p.num= -sg m (p.num.natAbs:Int):=(by rw[sp]);rw[this];cases m<;>simp[sg]
 rw[J]at C;have I:=Zjo (!m) p.num.natAbs p.den p.den_pos oM oM;rw[C]at I;refine Zae Zaa func69 ?_;refine j.mono ?_;rintro _ rfl;refine I.mono ?_;rintro _ rfl;rfl
def Zel (p q:Rat) {k:Nat} (j:k<=44990) (hp:dz p k) (C:dz q k):PureOK prog Zai 33 [.v .s (Zbh p), .v .s (Zbh q)] (λV=>V= .v .s (Zbh (p-q))):=by have I:=ZhQ p (-q) j hp (ZlO C);rw[<-Rat.sub_eq_add_neg]at I;refine Zae Zaa func33 ?_;refine(ZDM q j C).mono ?_;rintro _ rfl;refine I.mono ?_;rintro _ rfl;rfl
def ZJ2 m w x y:sg m x*sg w y=sg (!(m==w)) (x*y):=by cases m<;>cases w<;>simp[sg,Int.neg_mul,Int.mul_neg]
def ZhY (p q:Rat) {k:Nat} (hk:k<=44990) (hp:dz p k) (j:dz q k):PureOK prog Zai 32 [.v .s (Zbh p), .v .s (Zbh q)] (λV=>V= .v .s (Zbh (p*q))):=by
 have C:=Zhi p oM hp;have I:=Zhi q oM j;let⟨p1,p2⟩:=hp
 let⟨q1,q2⟩:=j
 have l1:=Zd4 p.num.natAbs q.num.natAbs;have l3:=Zd4 p.den q.den;have hz:=Nat.mul_pos p.den_pos q.den_pos;have J:=Zkb p q;have sp:=Zl6 p.num;have R:=Zl6 q.num;let⟨m,hm⟩: ∃m,decide (p.num<0)=m:=⟨_,rfl⟩
 let⟨w,hw⟩: ∃w,decide (q.num<0)=w:=⟨_,rfl⟩
 rw[hm]at C sp;rw[hw]at I R;have hX:=ZdU p.num.natAbs q.num.natAbs oM oM;have hZ:=ZdU p.den q.den oM oM;rw[<-Xa6,<-sp,<-R,ZJ2,<-Xa6]at J;have U:=Zjo (!(m==w)) (p.num.natAbs*q.num.natAbs) (p.den*q.den) hz oM oM;rw[J]at U;refine Zae Zaa func32 ?_;refine C.mono ?_;rintro _ rfl;refine I.mono ?_;rintro _ rfl;refine hX.mono ?_;rintro _ rfl;refine hZ.mono ?_;rintro _ rfl;refine U.mono ?_;rintro _ rfl;rfl
def Zkd (p q:Rat) {k:Nat} (hk:k<=44990) (hp:dz p k) (j:dz q k) (U:q≠0):PureOK prog Zai 31 [.v .s (Zbh p), .v .s (Zbh q)] (λV=>V= .v .s (Zbh (p/q))):=by
 have C:=Zhi p oM hp;have I:=Zhi q oM j;let⟨p1,p2⟩:=hp
 let⟨q1,q2⟩:=j
 have l1:=Zd4 p.num.natAbs q.den;have l3:=Zd4 p.den q.num.natAbs;have hn:q.num≠0:=λh=>U (Rat.num_eq_zero.1 h);have hz:=Nat.mul_pos p.den_pos (show 0<q.num.natAbs by omega);have e0:=ZoC p q;have sp:=Zl6 p.num;have J:=Zl6 q.num;let⟨m,hm⟩: ∃m,decide (p.num<0)=m:=⟨_,rfl⟩
 let⟨w,hw⟩: ∃w,decide (q.num<0)=w:=⟨_,rfl⟩
 rw[hm]at C sp;rw[hw]at I J;have hX:=ZdU p.num.natAbs q.den oM oM;have hZ:=ZdU p.den q.num.natAbs oM oM;have sm: ∀ (b:Bool) (x y:Int),sg b x*y=sg b (x*y):=λb x y=>by cases b<;>simp[sg,Int.neg_mul]
 have sn: ∀ (b:Bool) (x y:Int),x*sg b y=sg b (x*y):=λb x y=>by cases b<;>simp[sg,Int.mul_neg]
 have e1:Rat.divInt (sg (!(m==w)) ((p.num.natAbs*q.den:Nat):Int)) ((p.den*q.num.natAbs:Nat):Int)=p/q:=by rw[<-e0];(conv=>rhs;rw[<-sp,<-J,sm,sn,<-Xa6,<-Xa6]);cases m<;>cases w;rfl;exact(Rat.divInt_neg' _ _).symm;rfl;exact(Rat.neg_divInt_neg _ _).symm
 have R:=Zjo (!(m==w)) (p.num.natAbs*q.den) (p.den*q.num.natAbs) hz oM oM;rw[e1]at R;refine Zae Zaa func31 ?_;refine C.mono ?_;rintro _ rfl;refine I.mono ?_;rintro _ rfl;refine hX.mono ?_;rintro _ rfl;refine hZ.mono ?_;rintro _ rfl;refine R.mono ?_;rintro _ rfl;rfl
theorem Zke {n d:Int} {k:Nat} (hd:0<d) (j:ln n<=k) (C:ln d<=k):szQ (Rat.divInt n d) k:=by
 let⟨I,J⟩:=ZeP (n:=n) hd
 constructor;rw[I];exact XaK (ZlU (Int.natAbs_ediv_le_natAbs _ _)) j;rw[J];exact XaK (ZlU (Int.natAbs_ediv_le_natAbs _ _)) C
def Zt1 {p q:Rat} {k m:Nat} (hp:szQ p k) (j:szQ q m):szQ (p+q) (k+m+1):=by
 rw[<-Zku];let⟨C,I⟩:=hp
 let⟨J,R⟩:=j
 grind [Ziu,ZEL,Zke,Int.mul_pos,Zeo]
def ZuB {p q:Rat} {k m:Nat} (hp:szQ p k) (j:szQ q m):szQ (p*q) (k+m):=by
 rw[<-Zkb];let⟨C,I⟩:=hp
 let⟨J,R⟩:=j
 grind [Ziu,Zke,Int.mul_pos,Zeo]
def Zct {p:Rat} {k m:Nat} (h:k<=m) (hp:szQ p k):szQ p m:=⟨XaK hp.1 h,XaK hp.2 h⟩
def Zsa:szQ 0 1:=by constructor;grind [Rat.zero_num,ZFB];simp_all [Rat.zero_den,ZGY]
abbrev qct:CT:= .p (.p .b (.l (.i .u32))) (.p .b (.l (.i .u32)))
def ZbE (q:Rat):qct.D:=((decide (q.num<0),wOf q.num.natAbs),(decide ((q.den:Int)<0),wOf (q.den:Int).natAbs))
abbrev QL (ps:List Rat):SV:= .v (.l qct) (ps.map ZbE)
def ZHw {ps:List Rat} {i:Nat} (h:i<ps.length):(ps.map ZbE)[i]? =some (ZbE ps[i]):=by grind
end Go.Proofs.YtpdhpbldangmbaaGreatDoor
namespace Dv
open Go Go.Lib
def wid (m:List (List (List UInt8))):Nat:=match m with
 | []=>0
 |r::_=>r.length
def Ztl:List Rat->List Rat->Rat
 |p::ps,q::j=>p*q+Ztl ps j
 |_,_=>0
end Dv
namespace Go.Proofs.YtpdhpbldangmbaaGreatDoor
open Go.Am Go.Tx Dv Go.Lib
def Zlp (q:Rat):PureOK prog Zai 108 [QR q] (λV=>V= .v (.i .i64) q.num.sign):=by refine Zae Zaa func108 ?_;refine Xaa rfl ?_;refine(ZEf q.num).mono ?_;rintro _ rfl;rfl
def ZMu (S:Rat):List SM:=[.cell [.v .b false, .nils, .v .b false, .nils] true, .cell [.v .b (decide (S.num<0)),ZbC (wOf S.num.natAbs), .v .b (decide ((S.den:Int)<0)),ZbC (wOf (S.den:Int).natAbs)] true]
def ZC2 (j:List Rat):Ztl [] j=0:=by cases j<;>rfl
def ZyW {ps j:List Rat} {i:Nat} (C:i<ps.length) (I:i<j.length):Ztl (ps.drop i) (j.drop i)=ps[i]*j[i]+Ztl (ps.drop (i+1)) (j.drop (i+1)):=by grind [XaM,Ztl]
def ZMg {α:Type}:List (List α)->Nat
 | []=>0
 |r::_=>r.length
def Zma:List Rat->Bool
 | []=>true
 |q::r=>match ZAQ q with
  |true=>Zma r
  |false=>false
def ZnD: ∀ {ps:List Rat},(∀p∈ps,ZAQ p=true)->Zma ps=true
 | [],_=>rfl
 |q::r,h=>by rw[Zma,h q Xah];exact ZnD λp hp=>h p (Xai _ hp)
def Zqz {α β:Type} {g} {ps:List α} {out:List β} {i} (C:i<ps.length) (hlen:out.length=ps.length) (j:out.take i=(ps.map g).take i):(out.set i (g ps[i])).take (i+1)=(ps.map g).take (i+1):=by grind [Xa2,XbT,XbK]
def ZDt (ps:List Rat) (hl:ps.length<=1000):PureOK prog Zai 62 [QL ps] (λV=> ∃X,V= .tup [X, .v .b (Zma ps)]/\(Zma ps=true->X= .v (.l .s) (ps.map Zbh))):=by
 refine Zae Zaa func62 ?_;have U:(ps.map ZbE).length=ps.length:=Xar _;have hg:=λi (h:i<ps.length)=>ZHw h;let⟨L,hL⟩: ∃l,ps.map ZbE=l:=⟨_,rfl⟩
 rw[hL]at U hg;rw[show QL ps= .v (.l qct) L by rw[<-hL]];refine Xaa (show 0<=(L.length:Int)/\(L.length:Int)<=(L.length:Int)/\(16:Int)*(L.length:Int)<=281474976710656/\(L.length:Int)<9223372036854775808 by omega) ?_;refine Zaq Zaa rfl (λ(t:Nat×List (List UInt8))=> [(4, .ref 0 0 ps.length none),(12, .v (.l qct) L),(13, .v (.i .i64) (L.length:Int)),(14, .v (.i .i64) (t.1:Int))]) (λt=> [.row .s t.2 true])
  (λt=>t.1<=ps.length/\t.2.length=ps.length/\t.2.take t.1=(ps.map Zbh).take t.1/\Zma (ps.drop t.1)=Zma ps) (λt=>ps.length-t.1) ?_ (0,List.replicate ps.length []) ?_ ?_
 rintro⟨i,out⟩ ⟨hi,hlen,C,j⟩;simp only at hi hlen C j;refine Xaa (λh=> ?_) (λh=> ?_);have J:i<ps.length:=by have h':=dT h;omega
 have gx:L[(i:Int).toNat]? =some (ZbE ps[i]):=by rw[Xab];exact hg i J
 have I:=Zqz J hlen C;have ho:i<out.length:=oM;rw[XaM J,Zma]at j;let⟨q,hq⟩: ∃x,ps[i]=x:=⟨_,rfl⟩
 rw[hq]at gx I j;refine⟨ZbE q,XaG i,gx, ?_⟩;refine Xaa rfl ?_;refine Xaa rfl ?_;refine(ZFe q).mono ?_;rintro _ ⟨X,rfl,hX⟩;let⟨f,hf⟩: ∃x,ZAQ q=x:=⟨_,rfl⟩
 rw[hf]at hX j|-;cases f with|false=>refine axT ?_;simp only at j;exact⟨_,by rw[<-j],λh=>by rw[<-j]at h;cases h⟩|true=>refine Xaa (λh=>nomatch h) (λ_=> ?_);obtain rfl:=hX rfl;simp only at j;refine Xaa ⟨XaG i,by show(i:Int)<((ps.length:Nat):Int);omega⟩ ?_;refine Exists.intro (out[i]) (Xaa sM ?_);refine⟨(i+1,out.set i (Zbh q)),⟨J,by show(out.set _ _).length=_;simpa using hlen,I,j⟩,by show ps.length-(i+1)<ps.length-i;omega, ?_⟩;have er:out.set i (Zbh q)=out.set (0+(i:Int).toNat) (Zbh q):=(by rw[Xab,Xag]);exact eO
 have R:i=ps.length:=by have h': ¬ (i:Int)<(L.length:Int):=dF h;omega
 have ho:out=ps.map Zbh:=by rw[R,Xax oM,Xax sM]at C;exact C
 have hf:Zma ps=true:=by rw[<-j,R,Xbo];rfl
 refine⟨by show 0+ps.length<=out.length;omega, ?_⟩;refine⟨_,by rw[hf],λ_=> ?_⟩;show SV.v (.l .s) (sub out 0 ps.length)=_;rw[ho,sub,XaP,Xax sM];exact⟨Xak _,sM,sM,rfl⟩;have e1:ps.length=((L.length:Nat):Int).toNat:=oM;refine Zbx rfl rfl ?_ ?_;exact⟨⟨rfl,e1,e1⟩,rfl,rfl,rfl,trivial⟩;exact⟨⟨by rw[e1];rfl,λ_=>rfl⟩,trivial⟩
def ZLh (ps:List Rat):SV:=match Zma ps with
 |true=> .tup [.v (.l .s) (ps.map Zbh), .v (.i .i64) (0:Int)]
 |false=> .tup [.nils, .v (.i .i64) (2:Int)]
def ZqX (ps:List Rat) (hl:ps.length<=1000):PureOK prog Zai 25 [QL ps] (λV=>V=ZLh ps):=by unfold ZLh;refine Zae Zaa func25 ?_;refine(ZDt ps hl).mono ?_;rintro _ ⟨X,rfl,hX⟩;cases hf:Zma ps with|false=>rw[hf]at hX;exact Xaa (λ_=>rfl) (λh=>nomatch h)|true=>obtain rfl:=hX hf;exact Xaa (λh=>nomatch h) (λ_=>rfl)
def ZMD (j:List (List Rat)):List (List (List UInt8)):=j.map λps=>ps.map Zbh
end Go.Proofs.YtpdhpbldangmbaaGreatDoor
namespace Go.Tx
open Go.Am
section
variable {P:Program} {h:Hints} {T:TypeId->TI} {hp:List SM} {tm:TM}
def ZlJ {α:Type} {a:List α} {x:α} {r:List α}:nth (a++x::r) a.length=some x:=by rw[ZaA,Xaw (Xae _),Xbi];rfl
def ZFc {α:Type} {a:List α} {x y:α} {r:List α}:(a++x::r).set a.length y=a++y::r:=by grind
variable {N:Nat} {ls:List Nat} {o:Oper} {l:List Oper} {i:Nat} {ks:List (Nat × Nat × Bool)} {kk:TM->List SM->Prop}
end
end Go.Tx
namespace Go.Proofs.YtpdhpbldangmbaaGreatDoor
open Go.Am Go.Tx Dv Go.Lib
def ZAR (p:Nat) (xs:List (List qct.D)) (n i:Nat):List SV:=Zax p (xs.take i)++List.replicate (n-i) .nils
def Zms {α:Type} (y:List α): ∀ (p:Nat) (xs:List (List α)),Zax p (xs++ [y])=Zax p xs++ [.ref (xs.length+p) 0 y.length none]
 |p,[]=>by rw[Xba,Zax,Zax,Zax,Xbq,Xag];rfl
 |p,x::r=>by rw[Xa5,Zax,Zax,Zms y (p+1) r,Xa5,Xao,show r.length+(p+1)=r.length+1+p by omega]
def ZA1 {p:Nat} {xs:List (List qct.D)} {i:Nat} (hi:i<=xs.length):(ZAR p xs xs.length i).length=xs.length:=by grind [ZAR,Zaw,Xaz,XaE]
def ZDd {p i:Nat} {xs:List (List qct.D)} (hi:i<xs.length):(ZAR p xs xs.length i).set i (.ref (i+p) 0 xs[i].length none)=ZAR p xs xs.length (i+1):=by
 have j:(Zax p (xs.take i)).length=i:=by rw[Zaw,Xaz];omega
 rw[ZAR,ZAR,List.set_append_right _ _ (by omega),j,Xbi,show xs.length-i=(xs.length-(i+1))+1 by omega,List.replicate_succ,List.set_cons_zero,Xa2 hi,Zms,Xa7,Xaz,XaU (by omega)];rfl
def Zrx (hp0:List SM) (xs:List (List qct.D)) (i:Nat):List SM:=hp0++(.many (.l qct) (ZAR (hp0.length+1) xs xs.length i) true::ZaP qct (xs.take i))
def ZB5 {hp0:List SM} {xs:List (List qct.D)} {i:Nat} (hi:i<=xs.length):(Zrx hp0 xs i).length=i+(hp0.length+1):=by rw[Zrx,Xal,Xao,Zal,Xaz];omega
def ZIK (xs:List (List qct.D)) (hp0:List SM) (hl:xs.length<=1000) (hr: ∀x∈xs,x.length<=1000) (h0: ∀x∈xs,x≠ []):OpenOK prog Zai 120 [.v (.l (.l qct)) xs] hp0 (λV hp=>V= .ref hp0.length 0 xs.length none/\hp=hp0++(.many (.l qct) (Zax (hp0.length+1) xs) true::ZaP qct xs)):=by
 refine ZfP (fn:=Tryz.f120) (code:=bodyOf Tryz.f120) Zaa (by kernel_rfl) func120 (by kernel_rfl) (Xam (by kernel_rfl)) ?_;intro base;refine Xaa (show 0<=(xs.length:Int)/\(xs.length:Int)<=(xs.length:Int)/\(24:Int)*(xs.length:Int)<=281474976710656/\(xs.length:Int)<9223372036854775808 by omega) ?_;refine Zaq Zaa rfl (λ(i:Nat)=> [(3, .ref hp0.length 0 xs.length none),(9, .v (.l (.l qct)) xs),(10, .v (.i .i64) (xs.length:Int)),(11, .v (.i .i64) (i:Int))]) (λi=>Zrx hp0 xs i)
  (λi=>i<=xs.length) (λi=>xs.length-i) ?_ 0 (Xak _) ?_
 ·intro i hi;refine Xaa (λh=> ?_) (λh=> ?_);·have j:i<xs.length:=(by have h':(i:Int)<(xs.length:Int):=dT h;omega);have gx:xs[(i:Int).toNat]? =some xs[i]:=(by rw[Xab];exact Xac j);have C:=hr xs[i] (XaI j);have I:=h0 xs[i] (XaI j);have wi:i64.wrap ((i:Int)+1)=((i+1:Nat):Int):=Zap (by omega) (by omega);have ad:=ZA1 (p:=hp0.length+1) (xs:=xs) (i:=i) (by omega);have J:=ZDd (p:=hp0.length+1) j;have aa:=ZB5 (hp0:=hp0) (xs:=xs) (i:=i) (by omega);have ci:(0:Int)<=(i:Int)/\(i:Int)<(xs.length:Nat):=(by omega);have R:ZaP qct (xs.take i)++ [SM.row qct xs[i] true]=ZaP qct (xs.take (i+1)):=(by rw[Xa2 j,ZaP,ZaP,Xbb];rfl);obtain⟨row,U⟩: ∃x,xs[i]=x:=⟨_,rfl⟩;rw[U]at gx C I J R;cases row with|nil=>exact absurd rfl I|cons y r=>rw[Xao]at C;refine auG ?_;refine auH ?_;refine Zag rfl (Xaa (show(r.length+1)*64<=140737488355328 by omega) ?_);refine Zaf rfl rfl ?_;refine Zag rfl (ZaQ rfl rfl rfl rfl rfl (show nth (Zrx hp0 xs i++_) _=some (.many (.l qct) (ZAR (hp0.length+1) xs xs.length i) true)from by rw[Zrx,Xa7];exact ZlJ) rfl ci ?_);refine Zaf rfl rfl ?_;refine Zag rfl (Zgl rfl rfl rfl (show nth (Zrx hp0 xs i++_) _=some (.many (.l qct) (ZAR (hp0.length+1) xs xs.length i) true)from by rw[Zrx,Xa7];exact ZlJ) rfl rfl rfl (by omega) ?_);refine Zat rfl ?_;refine Zg0 ?_;refine⟨i+1,j,by show xs.length-(i+1)<xs.length-i;omega, ?_⟩;have e0:0+(i:Int).toNat=i:=(by rw[Xab,Xag]);refine Ent.eqs (hp0:=Zrx hp0 xs (i+1)) ?_ (Zah ⟨rfl,rfl,rfl,congrArg (λx=>some (SV.v (.i .i64) x)) wi,trivial⟩);rw[Zrx,Xa7,Xa5,ZFc,e0,Zrx];show hp0++(_::(ZaP qct (xs.take i)++ [SM.row qct (y::r) true]))=_;rw[R];congr 2;rw[<-J,Xao];show SM.many _ (List.set _ _ (.ref (Zrx hp0 xs i).length 0 _ _)) _=_;rw[aa]
  have ab:i=xs.length:=(by have h': ¬ (i:Int)<(xs.length:Int):=dF h;omega);refine⟨rfl, ?_⟩;show Zrx hp0 xs i=_;rw[Zrx,ZAR,ab,Xbi,Xa1,List.replicate_zero,XaQ]
 have R:((xs.length:Nat):Int).toNat=xs.length:=Xab _;refine Ent.eqs (hp0:=Zrx hp0 xs 0) ?_ (Zah ⟨congrArg (λx=>some (SV.ref hp0.length 0 x none)) R,rfl,rfl,rfl,trivial⟩);show hp0++ [SM.many (.l qct) (List.replicate ((xs.length:Nat):Int).toNat .nils) true]=Zrx hp0 xs 0;rw[R];rfl
def Za7 (W:Nat) (g:Nat->Rat):List qct.D:=(List.range W).map λj=>ZbE (g j)
def ZbR (n W:Nat) (f:Nat->Nat->Rat):List (List qct.D):=(List.range n).map λi=>Za7 W (f i)
section
variable {n W i j:Nat} {f g:Nat->Nat->Rat} {u v:Nat->Rat} {q:Rat}
theorem Za1:(Za7 W u).length=W:=by rw[Za7,Xar,XaX]
def ZbP (C:j<W):(Za7 W u)[j]? =some (ZbE (u j)):=by rw[Za7,XaD,Xa9 C];rfl
def Zgw (h: ∀j,j<W->u j=v j):Za7 W u=Za7 W v:=Xbr λj C=>by rw[h j (XbI.1 C)]
def Zix (I:j<W):(Za7 W u).set j (ZbE q)=Za7 W (λb=>if b=j then q else u b):=by apply XaR;intro b;by_cases C:b<W;rw[ZbP C];by_cases e:j=b;subst e;rw[XaN (by rw[Za1];exact C),if_pos rfl];rw[XaL e,ZbP C,if_neg (λx=>e x.symm)];rw[Xat (by rw[Xap,Za1];omega),Xat (by rw[Za1];omega)]
theorem ZaG:(ZbR n W f).length=n:=by rw[ZbR,Xar,XaX]
def Zkz (hi:i<n):(ZbR n W f)[i]? =some (Za7 W (f i)):=by rw[ZbR,XaD,Xa9 hi];rfl
theorem ZcB (h:i<(ZbR n W f).length):(ZbR n W f)[i]=Za7 W (f i):=by simp[ZbR,List.getElem_map,List.getElem_range]
def Zjr (h: ∀i j,i<n->j<W->f i j=g i j):ZbR n W f=ZbR n W g:=Xbr λi hi=>Zgw λj C=>h i j (XbI.1 hi) C
def Zt6 (hi:i<n):(ZbR n W f).set i (Za7 W u)=ZbR n W (λa=>if a=i then u else f a):=by apply XaR;intro b;by_cases j:b<n;rw[Zkz j];by_cases e:i=b;subst e;rw[XaN (by rw[ZaG];exact j),if_pos rfl];rw[XaL e,Zkz j,if_neg (λx=>e x.symm)];rw[Xat (by rw[Xap,ZaG];omega),Xat (by rw[ZaG];omega)]
def hpM (n W:Nat) (f:Nat->Nat->Rat) (ex:List SM):List SM:= .many (.l qct) (Zax 1 (ZbR n W f)) true::([]++(ZaP qct (ZbR n W f)++ex))
def ZcM {ex:List SM} (h: ∀i j,i<n->j<W->f i j=g i j):hpM n W f ex=hpM n W g ex:=by rw[hpM,hpM,Zjr h]
def Zdu {p:Nat} (hi:i<n):(Zax p (ZbR n W f))[0+(i:Int).toNat]? =some (.ref (i+p) 0 W none):=by
 have h:i<(ZbR n W f).length:=by rw[ZaG];exact hi
 rw[Xab,Xag,ZbF h,ZcB h,Za1]
def Zuq {p:Nat}:Zax p (ZbR n W f)=Zax p (ZbR n W g):=by
 have: ∀ (l m:List (List qct.D)) (p:Nat),l.map List.length=m.map List.length->Zax p l=Zax p m:=by
  intro l;induction l with
  |nil=>intro m p h;cases m with
   |nil=>rfl
   |cons _ _=>simp at h
  |cons x l j=>intro m p h;cases m with
   |nil=>simp at h
   |cons y m=>grind [List.cons.injEq,Zax]
 grind [ZbR,XbG,Xbr,Za1]
def ZiP {ex:List SM} (hi:i<n):nth (hpM n W f ex) (i+1)=some (.row qct (Za7 W (f i)) true):=by grind [ZbR,ZaG,hpM,ZxD,ZcB]
def ZjF {ex:List SM} {e:Nat}:nth (hpM n W f ex) (n+1+e)=ex[e]? :=ZuU (by rw[Xbq,ZaG];omega)
theorem Zcm {ex}:(hpM n W f ex).length=n+1+ex.length:=by rw[hpM,Znj,Xbq,ZaG];omega
def ZgI {ex x}:hpM n W f ex++ [x]=hpM n W f (ex++ [x]):=ZoO
def ZoF {ex e x}:(hpM n W f ex).set (n+1+e) x=hpM n W f (ex.set e x):=ZzK (by rw[Xbq,ZaG];omega)
def ZKi (f:Nat->Nat->Rat) (i j:Nat) (q:Rat):Nat->Nat->Rat:=λa b=>if a=i/\b=j then q else f a b
def Zpm {ex} (hi:i<n) (C:j<W):(hpM n W f ex).set (i+1) (.row qct ((Za7 W (f i)).set j (ZbE q)) true)=hpM n W (ZKi f i j q) ex:=by
 rw[hpM,ZHf (p:=1) (by rw[ZaG];exact hi) rfl,Zix C,ZfU,Zt6 hi,hpM,Zuq];have e:ZbR n W (λa=>if a=i then(λb=>if b=j then q else f i b)else f a)=ZbR n W (ZKi f i j q):=Zjr λa b J R=>by unfold ZKi;by_cases I:a=i;simp_all;simp[I]
 rw[e]
def ZnZ {ex} (hex: ∀m∈ex,Zd0 m=[]): ∀m∈hpM n W f ex,∀id∈Zd0 m,id<(hpM n W f ex).length:=by intro m hm id hid;rw[Zcm];rcases XaF.1 hm with rfl|hm;have:=ZcT (by simpa only[Zd0]using hid);grind [ZaG];grind [ZaP,Zd0]
def ZE5 {F tm tm' ex c} (C:F<=n+1) (hex: ∀m∈ex,Zd0 m=[]) (j:ZxX (n+1+ex.length) tm tm'):Ent F tm (hpM n W f (ex++ [c])) tm' (hpM n W f ex):=by exact Ent.eqs ZgI.symm (Zep (by rw[Zcm];omega) (by rw[Zcm];exact j) (ZnZ hex))
def ZFu {F tm tm' ex y e} (he:ex[e]? =some y) (J:Zd0 y=[]) (hF:F<=n+1) (R:ZrG (λj=>if j=n+1 then n+1+e else j) (n+2) tm tm'):Ent F tm (hpM n W f ex) tm' (hpM n W f [y]):=by
 have ad:=(Xaf.1 he).1;have U:(hpM n W f [y]).length=n+2:=by rw[Zcm];rfl
 refine ZdZ (λj=>if j=n+1 then n+1+e else j) ?_ ?_ ?_ ?_ (by rw[U];exact R) ?_;rw[U];omega;grind;grind [Zcm];grind;intro j m hm;right;have aa:=(Xaf.1 hm).1;rw[U]at aa;by_cases I:j=n+1;subst I;have h1:(hpM n W f [y])[n+1]? =some y:=by rw[<-ZaA];exact ZjF (e:=0)
 rw[h1]at hm;cases hm;refine⟨?_,λid hid=>by rw[J]at hid;exact absurd hid Xaq⟩;show(hpM n W f ex)[if n+1=n+1 then n+1+e else n+1]? =_;rw[if_pos rfl,<-ZaA,ZjF,he,Zjz (λj I=>absurd I (XaS j)) y (λid hid=>by rw[J]at hid;exact absurd hid Xaq)];have same: ∀C,(hpM n W f C)[j]? =(hpM n W f [])[j]? :=by intro C;have h1:hpM n W f C=hpM n W f []++C:=(by rw[hpM,hpM,Xba,Xba,XaQ,Xa5]);rw[h1,Xan (by rw[Zcm];simp;omega)]
 have hb:=ZnZ (λm hm=>by rw[Xav.1 hm];exact J) m (XaC hm);have ab: ∀id∈Zd0 m,id<n+1:=by intro id hid;rw[same [y]]at hm;have:=ZnZ (λm hm=>absurd hm Xaq) m (XaC hm) id hid;rw[Zcm]at this;exact this
 refine⟨?_,λid hid=>hb id hid⟩;show(hpM n W f ex)[if j=n+1 then n+1+e else j]? =_;rw[if_neg I,same ex,<-same [y],hm,Zjz (λj I=>if_neg oM) m ab]
end
end Go.Proofs.YtpdhpbldangmbaaGreatDoor
