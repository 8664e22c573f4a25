/- large.divWords: the loop that takes a multiple of the divisor away. -/
import Derived.Test.YtpdhpbldangmbaaGreatDoorLa
set_option linter.all false
set_option maxHeartbeats 16000000
set_option maxRecDepth 100000
open Go.Proofs.Tryz
open Go.IntKind(i64 u32 u64 u8)
namespace Go.Proofs.YtpdhpbldangmbaaGreatDoor
open Go.Am Go.Tx Dv
def ZFy {x} (j:0<=x) (C:x<18446744073709551616):u64.wrap ((BitVec.ofInt u64.bits x&&&BitVec.ofInt u64.bits 4294967295).toNat:Int)=x % 4294967296:=by obtain⟨n,rfl⟩: ∃n:Nat,x=n:=⟨x.toNat,oM⟩;show u64.wrap ((BitVec.ofInt 64 (n:Int)&&&BitVec.ofInt 64 ((4294967295:Nat):Int)).toNat:Int)=_;have:=Nat.and_two_pow_sub_one_eq_mod n 32;grind [Zav]
def Zyc {u i j W g Z v bo ca C I} (hu:i+j<u.length) (J:C=ca+g*v) (R:I=bo+(u[i+j]-C % 4294967296)) (h:wv u+4294967296^(j+i)*bo=W-4294967296^j*(g*Z)+4294967296^(j+i)*ca):
 wv (u.set (i+j) (I % 4294967296))+4294967296^(j+(i+1))*(I/4294967296)=W-4294967296^j*(g*(Z+4294967296^i*v))+4294967296^(j+(i+1))*(C/4294967296):=by grind [Int.pow_add,ZtV]
def bC (a b:List Int) (n m s j:Nat) (g:Int) (t:Nat×Int×Int×List Int):TM:=[(14, .v (.i .u64) g),(16, .v (.i .i64) t.2.1),(17, .v (.i .u64) t.2.2.1),(142, .v (.i .i64) (n:Int)),(143, .v (.i .i64) (t.1:Int))]++dB a b n m s (j:Int)
def ZCt (a b u V q:List Int) (n m s j:Nat) (g:Int) (hm:m<=1000000000) (hj:j+n<=m) (ao:n<=m) (hu:u.length=m+1) (aj:Wd u) (hV:V.length=n+1) (ak:Wd V) (g0:0<=g) (g1:g<4294967296):
 LoopOK prog Zai 0 ⟨117,0,275⟩ (ZaN Tryz.f117 21) (bC a b n m s j g (0,0,0,u)) (dH u V q)
 (λe tm hp=>e= .exit 4/\ ∃ (bo ca:Int) (u':List Int) (X:SV),(-1<=bo/\bo<=0/\0<=ca/\ca<4294967296/\u'.length=m+1/\Wd u'/\u'.take j=u.take j/\u'.drop (j+n)=u.drop (j+n)/\wv u'+4294967296^(j+n)*bo=wv u-4294967296^j*(g*wv (V.take n))+4294967296^(j+n)*ca)/\tm=(144,X)::bC a b n m s j g (n,bo,ca,u')/\hp=dH u' V q):=by
 refine Zaq Zaa rfl (bC a b n m s j g) (λt=>dH t.2.2.2 V q)
  (λt=>t.1<=n/\ -1<=t.2.1/\t.2.1<=0/\0<=t.2.2.1/\t.2.2.1<4294967296/\t.2.2.2.length=m+1/\Wd t.2.2.2/\t.2.2.2.take j=u.take j/\t.2.2.2.drop (j+t.1)=u.drop (j+t.1)/\wv t.2.2.2+4294967296^(j+t.1)*t.2.1=wv u-4294967296^j*(g*wv (V.take t.1))+4294967296^(j+t.1)*t.2.2.1) (λt=>n-t.1) ?_ (0,0,0,u) ?_ Zaj
 rintro⟨i,bo,ca,u'⟩ ⟨hi,ad,ae,af,ag,hl,hw,ht,hd,I⟩;simp only at hi ad ae af ag hl hw ht hd I;refine Xaa (λh=> ?_) (λh=> ?_);have al:i<n:=by have:=dT h;simp only at this;omega
 have aa:i<V.length:=oM;have U:i+j<u'.length:=oM;have ab:=ak _ (XaI aa);have an:=hw _ (XaI U);let⟨v,ev⟩: ∃v,V[i]=v:=⟨_,rfl⟩
 let⟨z,ez⟩: ∃z,u'[i+j]=z:=⟨_,rfl⟩
 rw[ev]at ab;rw[ez]at an;have C:i64.wrap ((i:Int)+(j:Int))=((i+j:Nat):Int):=Zap oM oM;have p0:=XbJ g0 ab.1;have p1:g*v<=4294967295*4294967295:=Int.mul_le_mul oM oM ab.1 oM;let⟨J,ah⟩: ∃J,J=ca+g*v:=⟨_,rfl⟩
 let⟨R,ai⟩: ∃R,R=bo+(z-J % 4294967296):=⟨_,rfl⟩
 have f1:u64.wrap (ca+u64.wrap (g*u64.wrap v))=J:=by rw[Zav (x:=v) oM oM,Zav (x:=g*v) oM oM,Zav oM oM,ah]
 have f2:i64.wrap (bo+i64.wrap (i64.wrap z-i64.wrap (u64.wrap ((BitVec.ofInt u64.bits (u64.wrap (ca+u64.wrap (g*u64.wrap v)))&&&BitVec.ofInt u64.bits 4294967295).toNat:Int))))=R:=by rw[f1,ZFy oM oM,Zap (x:=z) oM oM,Zap (x:=J % 4294967296) oM oM,Zap (x:=z-J % 4294967296) oM oM,Zap oM oM,ai]
 refine Xaa ⟨XaG i,by show(i:Int)<(n:Int);omega⟩ ?_;refine Exists.intro v (Xaa (by show V[0+(i:Int).toNat]? =some v;rw[Xag,Xab,<-ev];exact Xac aa) ?_);refine Xaa ⟨by rw[C];omega,by rw[C];show((i+j:Nat):Int)<((m+1:Nat):Int);omega⟩ ?_;refine Exists.intro z (Xaa (by show u'[0+(i64.wrap ((i:Int)+(j:Int))).toNat]? =some z;rw[C,Xag,Xab,<-ez];exact Xac U) ?_);refine Xaa ⟨by rw[C];omega,by rw[C];show((i+j:Nat):Int)<((m+1:Nat):Int);omega⟩ ?_;refine Exists.intro z (Xaa (by show u'[0+(i64.wrap ((i:Int)+(j:Int))).toNat]? =some z;rw[C,Xag,Xab,<-ez];exact Xac U) ?_);refine Xaa dC ?_;refine Xaa dC ?_;have aq:R/4294967296=(i64.wrap (bo+i64.wrap (i64.wrap z-i64.wrap (u64.wrap ((BitVec.ofInt u64.bits (u64.wrap (ca+u64.wrap (g*u64.wrap v)))&&&BitVec.ofInt u64.bits 4294967295).toNat:Int))))).fdiv (2^min (Int.toNat 32) i64.bits):=by rw[f2,Zz6]
 have ar:J/4294967296=(u64.wrap (ca+u64.wrap (g*u64.wrap v))).fdiv (2^min (Int.toNat 32) u64.bits):=by rw[f1,ZrC]
 have er:u'.set (i+j) (R % 4294967296)=u'.set (0+(i64.wrap ((i:Int)+(j:Int))).toNat) (u32.wrap (i64.wrap (bo+i64.wrap (i64.wrap z-i64.wrap (u64.wrap ((BitVec.ofInt u64.bits (u64.wrap (ca+u64.wrap (g*u64.wrap v)))&&&BitVec.ofInt u64.bits 4294967295).toNat:Int)))))):=by rw[f2,C,Xag,Xab,Zbm]
 have wi:i64.wrap ((i:Int)+1)=((i+1:Nat):Int):=Zap oM oM;refine⟨(i+1,R/4294967296,J/4294967296,u'.set (i+j) (R % 4294967296)),⟨al,by show-1<=R/4294967296;omega,by show R/4294967296<=0;omega,by show 0<=J/4294967296;omega,by show J/4294967296<4294967296;omega, ?_, ?_, ?_, ?_, ?_⟩,by show n-(i+1)<n-i;omega, ?_⟩;show(u'.set _ _).length=_;simpa using hl;intro y hy;rcases Xbx hy with hy|rfl;exact hw y hy;omega;show(u'.set _ _).take j=_;rw[XbK oM,ht];show(u'.set _ _).drop (j+(i+1))=_;rw[XbA oM,<-XbL,<-Xbl,hd,Xbl];show wv (u'.set (i+j) (R % 4294967296))+4294967296^(j+(i+1))*(R/4294967296)=wv u-4294967296^j*(g*wv (V.take (i+1)))+4294967296^(j+(i+1))*(J/4294967296);rw[Zcu aa,ev];exact Zyc U ah (by rw[ez];exact ai) I;exact eO;have he:i=n:=by have:=dF h;simp only at this;omega
 subst he;exact⟨rfl,bo,ca,u',_,⟨ad,ae,af,ag,hl,hw,ht,hd,I⟩,rfl,rfl⟩;exact⟨Xak _,by show(-1:Int)<=0;decide,Xby _,Xby _,by show(0:Int)<4294967296;decide,hu,aj,rfl,rfl,by simp[wv]⟩
def ZJe {c x} {s:Nat} (j:s<=31) (C:0<=c) (I:c<2^s) (J:0<=x) (R:x<4294967296):
 u64.wrap ((BitVec.ofInt u64.bits c|||BitVec.ofInt u64.bits (u64.wrap (u64.wrap x*2^min (Int.toNat (s:Int)) u64.bits))).toNat:Int)=x*2^s+c:=by
 obtain⟨n,rfl⟩: ∃n:Nat,x=n:=⟨x.toNat,oM⟩;obtain⟨m,rfl⟩: ∃m:Nat,c=m:=⟨c.toNat,oM⟩;have hm:m<2^s:=by grind
 have hp:2^s<=2^31:=Xbd dC j;have hn:n*2^s<=4294967295*2^31:=Xa0 oM hp;have em:min (Int.toNat (s:Int)) u64.bits=s:=by show min s 64=s;omega
 have U:u64.wrap (u64.wrap (n:Int)*2^min (Int.toNat (s:Int)) u64.bits)=(n*2^s:Int):=by grind [Zav,Xa6]
 rw[U];show u64.wrap ((BitVec.ofInt 64 (m:Int)|||BitVec.ofInt 64 ((n*2^s:Nat):Int)).toNat:Int)=_;rw[BitVec.ofInt_natCast,BitVec.ofInt_natCast,BitVec.toNat_or,BitVec.toNat_ofNat,BitVec.toNat_ofNat,Xbz oM,Xbz oM];have e3:m|||n*2^s=n*2^s+m:=by have:=Nat.shiftLeft_add_eq_or_of_lt (a:=n) hm;grind [Nat.shiftLeft_eq]
 grind [Zav,XbZ]
def Zwk {a out:List Int} {i c v z} (hi:i<a.length) (ho:i<out.length) (j:v=a[i]*z+c)
 (h:wv (out.take i)+4294967296^i*c=wv (a.take i)*z):wv ((out.set i (v % 4294967296)).take (i+1))+4294967296^(i+1)*(v/4294967296)=wv (a.take (i+1))*z:=by
 rw[ZcS ho,ZeJ,Zcu hi,Xaz,XaU (XbN ho),XbB];have:wv [v % 4294967296]=v % 4294967296:=by simp[wv]
 grind
def Zqp (a:List Int) (s:Nat) (ha:Wd a) (hs:s<=31) (hl:a.length<=1000000000):ImpOK prog Zai 133 [ZbC a, .v (.i .i64) (s:Int)] (λV hp sf=> ∃out,V= .ref 0 0 (a.length+1) none/\hp=[.row (.i .u32) out true]/\sf=false/\Wd out/\out.length=a.length+1/\wv out=wv a*2^s):=by
 refine Zb2 Zaa func133 (Zad Zaa ?_);have w1:i64.wrap ((a.length:Int)+1)=((a.length+1:Nat):Int):=Zap oM oM;have w2: ∀x:Int,x=((a.length+1:Nat):Int)->0<=x/\x<=x/\(4:Int)*x<=281474976710656/\x<9223372036854775808:=λx hx=>oM
 have w3: ∀x:Int,x=((a.length+1:Nat):Int)->a.length+1=x.toNat:=λx hx=>oM
 have w4: ∀x:Int,x=((a.length+1:Nat):Int)->List.replicate (a.length+1) (0:Int)=List.replicate x.toNat 0:=λx hx=>by rw[<-w3 x hx]
 have hp:(0:Int)<2^s:=Xb0 dC;have ab:(2:Int)^s<=2^31:=ZiR (b:=2) dC hs;refine Xaa (w2 _ w1) ?_;refine Zaq Zaa rfl (λ(t:Nat×Int×List Int)=> [(0,ZbC a),(1, .v (.i .i64) (s:Int)),(5, .ref 0 0 (a.length+1) none),(6, .v (.i .u64) t.2.1),(13,ZbC a),(14, .v (.i .i64) (a.length:Int)),(15, .v (.i .i64) (t.1:Int))]) (λt=> [.row (.i .u32) t.2.2 true])
  (λt=>t.1<=a.length/\0<=t.2.1/\t.2.1<2^s/\t.2.2.length=a.length+1/\Wd (t.2.2.take t.1)/\wv (t.2.2.take t.1)+4294967296^t.1*t.2.1=wv (a.take t.1)*2^s) (λt=>a.length-t.1) ?_ (0,0,List.replicate (a.length+1) 0) ?_ ?_
 rintro⟨i,c,out⟩ ⟨hi,I,U,hlen,J,j⟩;simp only at hi I U hlen J j;refine Xaa (λh=> ?_) (λh=> ?_);have C:i<a.length:=by have:=dT h;simp only at this;omega
 have R:=ha _ (XaI C);have ho:i<out.length:=oM;have wi:i64.wrap ((i:Int)+1)=((i+1:Nat):Int):=Zap oM oM;obtain⟨v,hv⟩: ∃v,v=a[i]*2^s+c:=⟨_,rfl⟩;have ev:=ZJe hs I U R.1 R.2;rw[<-hv]at ev;have ad:0<=v:=by have:=XbJ R.1 (Xbw hp);omega
 have aa:v<4294967296*2^s:=by have:=Xa4 (show a[i]<=4294967295 by omega) (Xbw hp);omega
 refine⟨a[i],XaG i,Xac C, ?_⟩;refine Xaa (XaG s) ?_;refine Xaa ⟨XaG i,by show(i:Int)<((a.length+1:Nat):Int);omega⟩ ?_;refine Exists.intro (out[i]) (Xaa sM ?_);refine Xaa dC ?_;have ec:v/4294967296=(u64.wrap ((BitVec.ofInt u64.bits c|||BitVec.ofInt u64.bits (u64.wrap (u64.wrap a[i]*2^min (Int.toNat (s:Int)) u64.bits))).toNat:Int)).fdiv (2^min (Int.toNat 32) u64.bits):=by rw[ev,ZrC]
 have er:out.set i (v % 4294967296)=out.set (0+(i:Int).toNat) (u32.wrap (u64.wrap ((BitVec.ofInt u64.bits c|||BitVec.ofInt u64.bits (u64.wrap (u64.wrap a[i]*2^min (Int.toNat (s:Int)) u64.bits))).toNat:Int))):=by rw[ev,Zbm,Xab,Xag]
 refine⟨(i+1,v/4294967296,out.set i (v % 4294967296)),⟨C, ?_, ?_, ?_, ?_, ?_⟩, ?_, ?_⟩;show 0<=v/4294967296;omega;show v/4294967296<2^s;exact Int.ediv_lt_of_lt_mul dC (by rw[Int.mul_comm];exact aa);show(out.set _ _).length=_;simpa using hlen;show Wd ((out.set i _).take (i+1));intro x hx;rw[ZcS ho]at hx;rcases XaO.1 hx with hx|hx;exact J x hx;rw[Xav.1 hx];omega;exact Zwk C ho hv j;show a.length-(i+1)<a.length-i;omega;refine Zbx rfl rfl ?_ ?_;exact⟨rfl,rfl,⟨rfl,rfl,rfl⟩,ec,rfl,rfl,wi.symm,trivial⟩;exact⟨⟨er,λ_=>rfl⟩,trivial⟩;have he:i=a.length:=by have:=dF h;simp only at this;omega
 subst he;have ho:a.length<out.length:=oM;refine Xaa ⟨XaG _,by show(a.length:Int)<((a.length+1:Nat):Int);omega⟩ ?_;refine Exists.intro (out[a.length]) (Xaa sM ?_);rw[Xa1]at j;have hx: ∀x:Int,out.set a.length x=out.take a.length++ [x]:=λx=>by rw[<-ZcS ho,Xax (by rw[Xap];omega)]
 have ex:out.set (0+(a.length:Int).toNat) (u32.wrap c)=out.set a.length c:=by rw[Xab,Xag,Zbm,Int.emod_eq_of_lt I oM]
 refine⟨.ref 0 0 (a.length+1) none,[.row (.i .u32) (out.set a.length c) true], ?_,⟨rfl,rfl,ZsQ⟩,out.set a.length c,rfl,rfl,rfl, ?_,by rw[Xap];exact hlen, ?_⟩;refine Zbx rfl rfl ?_ ?_;exact⟨⟨rfl,rfl,rfl⟩,trivial⟩;exact⟨⟨ex.symm,λ_=>rfl⟩,trivial⟩;rw[hx];intro x hx;rcases XaO.1 hx with hx|hx;exact J x hx;rw[Xav.1 hx];omega;rw[hx,ZeJ,Xaz,XaU (XbN ho),<-j];simp[wv];exact⟨Xak _,Xby _,hp,sM,by intro x hx;simp at hx,by simp[wv]⟩;refine Zbx rfl rfl ?_ ?_;exact⟨rfl,rfl,⟨rfl,w3 _ w1,w3 _ w1⟩,rfl,rfl,rfl,rfl,trivial⟩;exact⟨⟨w4 _ w1,λ_=>rfl⟩,trivial⟩
def ZwJ {u i j W Z v c C} (hu:i+j<u.length) (I:C=c+(u[i+j]+v)) (h:wv u+4294967296^(j+i)*c=W+4294967296^j*Z):
 wv (u.set (i+j) (C % 4294967296))+4294967296^(j+(i+1))*(C/4294967296)=W+4294967296^j*(Z+4294967296^i*v):=by grind [Int.pow_add,ZtV]
def cC (a b:List Int) (n m s j:Nat) (g:Int) (t:Nat×Int×List Int):TM:=[(14, .v (.i .u64) g),(19, .v (.i .u64) t.2.1),(203, .v (.i .i64) (n:Int)),(204, .v (.i .i64) (t.1:Int))]++dB a b n m s (j:Int)
def ZyZ (a b u V q:List Int) (n m s j:Nat) (g:Int) (hm:m<=1000000000) (hj:j+n<=m) (aj:n<=m) (hu:u.length=m+1) (ae:Wd u) (hV:V.length=n+1) (af:Wd V):
 LoopOK prog Zai 0 ⟨117,0,275⟩ (ZaN Tryz.f117 35) (cC a b n m s j g (0,0,u)) (dH u V q)
 (λe tm hp=>e= .exit 6/\ ∃ (c:Int) (u':List Int) (X:SV),(0<=c/\c<=1/\u'.length=m+1/\Wd u'/\u'.take j=u.take j/\u'.drop (j+n)=u.drop (j+n)/\wv u'+4294967296^(j+n)*c=wv u+4294967296^j*wv (V.take n))/\tm=(205,X)::cC a b n m s j g (n,c,u')/\hp=dH u' V q):=by
 refine Zaq Zaa rfl (cC a b n m s j g) (λt=>dH t.2.2 V q)
  (λt=>t.1<=n/\0<=t.2.1/\t.2.1<=1/\t.2.2.length=m+1/\Wd t.2.2/\t.2.2.take j=u.take j/\t.2.2.drop (j+t.1)=u.drop (j+t.1)/\wv t.2.2+4294967296^(j+t.1)*t.2.1=wv u+4294967296^j*wv (V.take t.1)) (λt=>n-t.1) ?_ (0,0,u) ?_ Zaj
 rintro⟨i,c,u'⟩ ⟨hi,aa,ab,hl,hw,ht,hd,I⟩;simp only at hi aa ab hl hw ht hd I;refine Xaa (λh=> ?_) (λh=> ?_);have ag:i<n:=by have:=dT h;simp only at this;omega
 have U:i<V.length:=oM;have R:i+j<u'.length:=oM;have ah:=af _ (XaI U);have ai:=hw _ (XaI R);let⟨v,ev⟩: ∃v,V[i]=v:=⟨_,rfl⟩
 let⟨z,ez⟩: ∃z,u'[i+j]=z:=⟨_,rfl⟩
 rw[ev]at ah;rw[ez]at ai;have C:i64.wrap ((i:Int)+(j:Int))=((i+j:Nat):Int):=Zap oM oM;let⟨J,ad⟩: ∃J,J=c+(z+v):=⟨_,rfl⟩
 have f1:u64.wrap (c+u64.wrap (u64.wrap z+u64.wrap v))=J:=by rw[Zav (x:=v) oM oM,Zav (x:=z) oM oM,Zav (x:=z+v) oM oM,Zav oM oM,ad]
 refine Xaa ⟨by rw[C];omega,by rw[C];show((i+j:Nat):Int)<((m+1:Nat):Int);omega⟩ ?_;refine Exists.intro z (Xaa (by show u'[0+(i64.wrap ((i:Int)+(j:Int))).toNat]? =some z;rw[C,Xag,Xab,<-ez];exact Xac R) ?_);refine Xaa ⟨XaG i,by show(i:Int)<(n:Int);omega⟩ ?_;refine Exists.intro v (Xaa (by show V[0+(i:Int).toNat]? =some v;rw[Xag,Xab,<-ev];exact Xac U) ?_);refine Xaa ⟨by rw[C];omega,by rw[C];show((i+j:Nat):Int)<((m+1:Nat):Int);omega⟩ ?_;refine Exists.intro z (Xaa (by show u'[0+(i64.wrap ((i:Int)+(j:Int))).toNat]? =some z;rw[C,Xag,Xab,<-ez];exact Xac R) ?_);refine Xaa dC ?_;have ak:J/4294967296=(u64.wrap (c+u64.wrap (u64.wrap z+u64.wrap v))).fdiv (2^min (Int.toNat 32) u64.bits):=by rw[f1,ZrC]
 have er:u'.set (i+j) (J % 4294967296)=u'.set (0+(i64.wrap ((i:Int)+(j:Int))).toNat) (u32.wrap (u64.wrap (c+u64.wrap (u64.wrap z+u64.wrap v)))):=by rw[f1,C,Xag,Xab,Zbm]
 have wi:i64.wrap ((i:Int)+1)=((i+1:Nat):Int):=Zap oM oM;refine⟨(i+1,J/4294967296,u'.set (i+j) (J % 4294967296)),⟨ag,by show 0<=J/4294967296;omega,by show J/4294967296<=1;omega, ?_, ?_, ?_, ?_, ?_⟩,by show n-(i+1)<n-i;omega, ?_⟩;show(u'.set _ _).length=_;simpa using hl;intro y hy;rcases Xbx hy with hy|rfl;exact hw y hy;omega;show(u'.set _ _).take j=_;rw[XbK oM,ht];show(u'.set _ _).drop (j+(i+1))=_;rw[XbA oM,<-XbL,<-Xbl,hd,Xbl];show wv (u'.set (i+j) (J % 4294967296))+4294967296^(j+(i+1))*(J/4294967296)=wv u+4294967296^j*wv (V.take (i+1));rw[Zcu U,ev];exact ZwJ R (by rw[ez];exact ad) I;exact eO;have he:i=n:=by have:=dF h;simp only at this;omega
 subst he;exact⟨rfl,c,u',_,⟨aa,ab,hl,hw,ht,hd,I⟩,rfl,rfl⟩;exact⟨Xak _,Xby _,by show(0:Int)<=1;decide,hu,ae,rfl,rfl,by simp[wv]⟩
def Zz0 {x y w s} (hs:s<=31) (I:0<=x) (j:x<4294967296) (ab:0<=w) (p A:Int) (h:y+p*(x/2^s)=A/2^s):
 y+p*((w*4294967296+x)/2^s % 4294967296)+p*4294967296*(w/2^s)=(A+p*4294967296*w)/2^s:=by
 have hp:(0:Int)<2^s:=Xb0 dC;have hE:(0:Int)<2^(32-s):=Xb0 dC;have J:(4294967296:Int)=2^s*2^(32-s):=by rw[<-Int.pow_add,show s+(32-s)=32 by omega];rfl
 generalize(2:Int)^s=t at*;generalize(2:Int)^(32-s)=E at*;rw[J]at j|-;have h1:(w*(t*E)+x)/t=w*E+x/t:=by grind [Int.add_mul_ediv_right]
 have C:0<=x/t:=Int.ediv_nonneg I oM;have aa:=Int.ediv_lt_of_lt_mul hp (by rw[Int.mul_comm];exact j);have R:=XbU w t;have U:=Int.emod_nonneg w (show t≠0 by omega);have ad:=Int.emod_lt_of_pos w hp;have h2:(w*E+x/t) % (t*E)=(w % t)*E+x/t:=by have e:w*E+x/t=(w % t)*E+x/t+(w/t)*(t*E):=(by grind);rw[e,Int.add_mul_emod_self_right];have h3:(w % t)*E<=(t-1)*E:=Xa4 oM oM;have h4:(t-1)*E=t*E-E:=(by grind);exact Int.emod_eq_of_lt (Int.add_nonneg (XbJ U oM) C) oM
 have h5:(A+p*(t*E)*w)/t=A/t+p*E*w:=by rw[show A+p*(t*E)*w=A+(p*E*w)*t by grind,Int.add_mul_ediv_right _ _ oM]
 rw[h1,h2,h5,<-h];have h6:p*E*w=p*E*(w % t+t*(w/t)):=by rw[R]
 rw[h6];grind
def rC (n m s:Nat) (t:Nat×List Int):TM:=[(4, .ref 2 0 (m-n+1) none),(5, .ref 3 0 n none),(8, .v (.i .i64) (s:Int)),(9, .ref 0 0 (m+1) none),(249, .v (.i .i64) (n:Int)),(250, .v (.i .i64) (t.1:Int))]
def rH (u q r:List Int):List SM:=[.row (.i .u32) u true, .dead, .row (.i .u32) q true, .row (.i .u32) r true]
def ZBt (u q:List Int) (n m s:Nat) (hs:s<=31) (hm:m<=1000000000) (ad:n<=m) (hu:u.length=m+1) (aa:Wd u):
 LoopOK prog Zai 0 ⟨117,0,275⟩ (ZaN Tryz.f117 45) (rC n m s (0,List.replicate n 0)) (rH u q (List.replicate n 0))
 (λe tm hp=>e= .exit 8/\ ∃ (r:List Int) (X:SV),(r.length=n/\Wd r/\wv r+4294967296^n*(u[n]!/2^s)=wv (u.take (n+1))/2^s)/\tm=(251,X)::rC n m s (n,r)/\hp=rH u q r):=by
 have hp:(0:Int)<2^s:=Xb0 dC;have I: ∀i,i<=n->u[i]! =u[i]!/\u[i]? =some u[i]!/\0<=u[i]!/\u[i]! <4294967296:=λi hi=>by have C:i<u.length:=oM;have e:=getElem!_pos u i C;have:=aa _ (XaI C);rw[e];exact⟨rfl,Xac C,this.1,this.2⟩
 refine Zaq Zaa rfl (rC n m s) (λt=>rH u q t.2)
  (λt=>t.1<=n/\t.2.length=n/\Wd t.2/\wv (t.2.take t.1)+4294967296^t.1*(u[t.1]!/2^s)=wv (u.take (t.1+1))/2^s) (λt=>n-t.1) ?_ (0,List.replicate n 0) ?_ Zaj
 rintro⟨i,r⟩ ⟨hi,hl,hw,j⟩;simp only at hi hl hw j;refine Xaa (λh=> ?_) (λh=> ?_);have C:i<n:=by have:=dT h;simp only at this;omega
 let⟨_,g1,g2,g3⟩:=I i hi
 let⟨_,k1,k2,k3⟩:=I (i+1) C
 let⟨x,ex⟩: ∃x,u[i]! =x:=⟨_,rfl⟩
 let⟨w,ew⟩: ∃w,u[i+1]! =w:=⟨_,rfl⟩
 rw[ex]at g1 g2 g3 j;rw[ew]at k1 k2 k3;have ei:i64.wrap ((i:Int)+1)=((i+1:Nat):Int):=Zap oM oM;have R:i<r.length:=oM;have em:min (Int.toNat (s:Int)) u64.bits=s:=by show min s 64=s;omega
 have eo:=Zkg k2 k3 g2 g3;have ab:(u64.wrap ((BitVec.ofInt u64.bits (u64.wrap (u64.wrap w*2^min (Int.toNat 32) u64.bits))|||BitVec.ofInt u64.bits (u64.wrap x)).toNat:Int)).fdiv (2^min (Int.toNat (s:Int)) u64.bits)=(w*4294967296+x)/2^s:=by rw[Zav (x:=w) oM oM,eo,em,Int.fdiv_eq_ediv_of_nonneg _ (Xbw hp)]
 refine Xaa ⟨by rw[ei];omega,by rw[ei];show((i+1:Nat):Int)<((m+1:Nat):Int);omega⟩ ?_;refine Exists.intro w (Xaa (by show u[0+(i64.wrap ((i:Int)+1)).toNat]? =some w;rw[ei,Xag,Xab];exact k1) ?_);refine Xaa dC ?_;refine Xaa ⟨XaG i,by show(i:Int)<((m+1:Nat):Int);omega⟩ ?_;refine Exists.intro x (Xaa (by show u[0+(i:Int).toNat]? =some x;rw[Xag,Xab];exact g1) ?_);refine Xaa (XaG s) ?_;refine Xaa ⟨XaG i,by show(i:Int)<(n:Int);omega⟩ ?_;refine Exists.intro (r[i]) (Xaa (by show r[0+(i:Int).toNat]? =_;rw[Xag,Xab];exact Xac R) ?_);have er:r.set i ((w*4294967296+x)/2^s % 4294967296)=r.set (0+(i:Int).toNat) (u32.wrap ((u64.wrap ((BitVec.ofInt u64.bits (u64.wrap (u64.wrap w*2^min (Int.toNat 32) u64.bits))|||BitVec.ofInt u64.bits (u64.wrap x)).toNat:Int)).fdiv (2^min (Int.toNat (s:Int)) u64.bits))):=by rw[ab,Zbm,Xag,Xab]
 refine⟨(i+1,r.set i ((w*4294967296+x)/2^s % 4294967296)),⟨C, ?_, ?_, ?_⟩,by show n-(i+1)<n-i;omega, ?_⟩;show(r.set _ _).length=_;simpa using hl;intro y hy;rcases Xbx hy with hy|rfl;exact hw y hy;omega;show wv ((r.set i _).take (i+1))+4294967296^(i+1)*(u[i+1]!/2^s)=wv (u.take (i+1+1))/2^s;have J:i+1<u.length:=oM;have eu:u[i+1]=w:=by rw[<-ew];exact(getElem!_pos u (i+1) J).symm
 rw[ZcS R,ZeJ,Xaz,XaU (XbN R),Zcu J,eu,ew,XbB];have U: ∀z:Int,wv [z]=z:=λz=>by simp[wv]
 rw[U];exact Zz0 hs g2 g3 k2 _ _ j;exact eO;have he:i=n:=by have:=dF h;simp only at this;omega
 subst he;rw[Xax oM]at j;exact⟨rfl,r,_,⟨hl,hw,j⟩,rfl,rfl⟩;refine⟨Xak _,sM,λx hx=> ?_, ?_⟩;have:=List.eq_of_mem_replicate hx;rw[this];decide;have h0:0<u.length:=oM;show wv ((List.replicate n (0:Int)).take 0)+4294967296^0*(u[0]!/2^s)=wv (u.take 1)/2^s;rw[Zcu h0,getElem!_pos u 0 h0];simp[wv]
end Go.Proofs.YtpdhpbldangmbaaGreatDoor
namespace Dv
def wvn {l:List Int} (h:Wd l):0<=wv l:=(Zbu h).1
def Wd.take {l:List Int} (h:Wd l) (n:Nat):Wd (l.take n):=λx j=>h x (XaY j)
def Wd.drop {l:List Int} (h:Wd l) (n:Nat):Wd (l.drop n):=λx j=>h x (XbE j)
def ZFx (n:Nat):(0:Int)<4294967296^n:=Xb0 (by decide)
theorem seg (l:List Int) (j:Nat) (C:j<=l.length):wv l=wv (l.take j)+4294967296^j*wv (l.drop j):=by grind [Xbc,ZeJ,Xaz,XaU]
theorem ZfQ {l:List Int} {k:Nat} (h:k<l.length):wv (l.drop k)=l[k]+4294967296*wv (l.drop (k+1)):=by rw[XaM h];rfl
def ZkF {l n} (hw:Wd l) (h:wv l<4294967296^n):wv (l.drop n)=0:=by rcases Xa8 l.length n with h1|h1;rw[List.drop_of_length_le (by omega)];rfl;have j:=seg l n h1;have C:=wvn (hw.take n);have I:=wvn (hw.drop n);rcases Int.lt_or_le (wv (l.drop n)) 1 with h5|h5;omega;have J:=Xbt h5 (Xbw (ZFx n));omega
def Zzp {l n} (hw:Wd l) (h:wv (l.drop n)=0):wv l<4294967296^n:=by rcases Xa8 l.length n with h1|h1;have:=(Zbu hw).2;have j:(4294967296:Int)^l.length<=4294967296^n:=ZiR (by decide) (by omega);omega;have j:=seg l n h1;have C:=(Zbu (hw.take n)).2;grind
def ZxS {V:List Int} {n} (hn:2<=n) (j:n<=V.length):wv (V.take n)=(V[n-1]'(by omega)*4294967296+V[n-2]'(by omega))*4294967296^(n-2)+wv (V.take (n-2)):=by grind [Zcu,XbB]
def ZxR {u n j} (hn:2<=n) (hu:j+n<u.length) (hw:Wd u) (C:wv (u.drop (j+n+1))=0):
 wv (u.drop j)=((u[j+n]*4294967296+u[j+n-1]'(by omega))*4294967296+u[j+n-2]'(by omega))*4294967296^(n-2)+wv ((u.drop j).take (n-2)):=by obtain⟨k,rfl⟩: ∃k,n=k+2:=⟨n-2,by omega⟩;grind [seg,XbC,Xbl,ZfQ]
def ZIX {U D top u2 v1 v2 P U' V':Int} (j:0<P) (eD:D=(v1*4294967296+v2)*P+V') (C:V'<P) (I:v2<4294967296) (eU:U=(top*4294967296+u2)*P+U') (J:0<=U') (R:0<=u2) (aa:U<D*4294967296):top<(v1+1)*4294967296:=by
 have h1:D<(v1+1)*4294967296*P:=by have:(v2+1)*P<=4294967296*P:=Xa4 (by omega) (Xbw j);grind
 have h2:top*(4294967296*P)<(v1+1)*4294967296*(4294967296*P):=by have:=XbJ R (Xbw j);grind
 exact Int.lt_of_mul_lt_mul_right h2 (by omega)
def ZwZ {u u' j n g D bo ca z b2} (hl:u'.length=u.length) (hj:j+n<u.length) (I:u'.take j=u.take j) (J:u'[j+n]'(by omega)=z) (hb:b2=bo+(z-ca))
 (h:wv u'+4294967296^(j+n)*bo=wv u-4294967296^j*(g*D)+4294967296^(j+n)*ca):
 wv ((u'.set (j+n) (b2 % 4294967296)).drop j)+4294967296^(n+1)*(b2/4294967296)=wv (u.drop j)-g*D:=by
 have h1:=seg u j (by omega);have C:=seg (u'.set (j+n) (b2 % 4294967296)) j (by rw[Xap];omega);rw[XbK (by omega),I,ZtV (by omega),J]at C;have e1:=XbU b2 4294967296;have R:b2 % 4294967296=b2-4294967296*(b2/4294967296):=by omega
 have U:(4294967296:Int)^(j+n)=4294967296^j*4294967296^n:=Int.pow_add ..;have e4:(4294967296:Int)^(n+1)=4294967296^n*4294967296:=XbB ..;generalize wv ((u'.set (j+n) (b2 % 4294967296)).drop j)=X at*;rw[U]at h C;rw[R]at C;rw[e4];have hp:=ZFx j;generalize(4294967296:Int)^j=p at*;generalize(4294967296:Int)^n=r at*;generalize b2/4294967296=y at*;have:p*(X+r*4294967296*y)=p*(wv (u.drop j)-g*D):=by grind
 exact Int.eq_of_mul_eq_mul_left (by omega) this
def Zyw {u u' j n D c z y} (hl:u'.length=u.length) (C:j+n<u.length) (I:u'.take j=u.take j) (J:u'[j+n]'(by omega)=z) (R:y=z+c)
 (h:wv u'+4294967296^(j+n)*c=wv u+4294967296^j*D):
 wv ((u'.set (j+n) (y % 4294967296)).drop j)+4294967296^(n+1)*(y/4294967296)=wv (u.drop j)+D:=by have:=ZwZ (D:=D) (bo:=c) (ca:=0) (b2:=y) hl C I J (by omega) (by rw[h,Int.neg_mul,Int.one_mul,Int.mul_neg,Int.mul_zero];omega);rw[this];omega
def Zxl {b V n s x} (hn:2<=n) (hb:b.length=n) (aa:Wd b) (hx:b[n-1]? =some x) (hs:s<=31) (h1:x*2^s<4294967296) (h2:2147483648<=x*2^s) (hV:V.length=n+1) (C:Wd V) (hv:wv V=wv b*2^s):
 wv (V.take n)=wv b*2^s/\2147483648<=V[n-1]'(by omega)/\4294967296^(n-1)*2147483648<=wv b*2^s:=by
 obtain⟨k,rfl⟩: ∃k,n=k+1:=⟨n-1,by omega⟩;simp at hx|-;let⟨hk,hx⟩:=Xaf.1 hx
 have hp:(0:Int)<2^s:=Xb0 (by decide);have hE:(0:Int)<2^(32-s):=Xb0 (by decide);have I:(4294967296:Int)=2^s*2^(32-s):=by rw[<-Int.pow_add,show s+(32-s)=32 by omega];rfl
 have ab:wv b=wv (b.take k)+4294967296^k*x:=by grind [Zcu,Xax]
 have J:=Zbu (aa.take k);rw[Xaz,XaU (by omega)]at J;have j:=ZFx k;have ad:(x+1)*2^s<=4294967296:=by have h3:x<2^(32-s):=(by rw[I,Int.mul_comm]at h1;simp_all);rw[I,Int.mul_comm];exact Xbt (by omega) (Xbw hp)
 have R:4294967296^k*2147483648<=wv b*2^s:=by have h3:=Xbt h2 (Xbw j);have h4:=XbJ J.1 (Xbw hp);have h5:wv b*2^s=wv (b.take k)*2^s+4294967296^k*(x*2^s):=(by rw[ab];grind);omega
 have ae:wv b*2^s<4294967296^(k+1):=by have h3:wv b<4294967296^k*(x+1):=(by rw[Int.mul_add];omega);have h4:=Int.mul_lt_mul_of_pos_right h3 hp;have h5:=Xbt ad (Xbw j);rw[Int.mul_assoc]at h4;rw[XbB];omega
 have hz:=ZkF C (by rw[hv];exact ae);have U:wv (V.take (k+1))=wv b*2^s:=by have:=seg V (k+1) (by omega);rw[hz,Int.mul_zero,Int.add_zero]at this;rw[<-this,hv]
 refine⟨U, ?_,R⟩;have af:k<V.length:=by omega
 have h6:=Zcu af;have h7:=Zbu (C.take k);rw[Xaz,XaU (by omega)]at h7;rw[U]at h6;have h8:4294967296^k*2147483648<4294967296^k*(V[k]+1):=by rw[Int.mul_add];omega
 have:=Int.lt_of_mul_lt_mul_left h8 (Xbw j);omega
def ZzD {a u m k s n} (R:a.length=m) (j:Wd a) (U:s<=31) (hu:u.length=m+1) (C:Wd u) (hv:wv u=wv a*2^s) (hk:k+n=m+1) (hn:1<=n) {D} (hD:4294967296^(n-1)*2147483648<=D):wv (u.drop k)<D:=by
 have hp:(0:Int)<2^s:=Xb0 (by decide);have I:(2:Int)^s<=2^31:=ZiR (by decide) U;have h1:=seg u k (by omega);have h2:=wvn (C.take k);have J:=(Zbu j).2;rw[R]at J;have h4:=Int.mul_lt_mul_of_pos_right J hp;have e1:(4294967296:Int)^m=4294967296^k*4294967296^(n-1):=by rw[<-Int.pow_add,show k+(n-1)=m by omega]
 rw[e1,Int.mul_assoc]at h4;have h5:4294967296^k*wv (u.drop k)<4294967296^k*(4294967296^(n-1)*2^s):=by omega
 have h6:=Int.lt_of_mul_lt_mul_left h5 (Xbw (ZFx k));have h7:=Xbt I (Xbw (ZFx (n-1)));omega
def Zwu {A B Q R:Int} {s} (hB:0<B) (h:A*2^s=B*2^s*Q+R) (j:0<=R) (C:R<B*2^s):Q=A/B/\R/2^s=A % B:=by
 have hp:(0:Int)<2^s:=Xb0 (by decide);generalize(2:Int)^s=t at*;have hR:R=(A-B*Q)*t:=by grind
 have I:0<=A-B*Q:=by rcases Int.lt_or_le (A-B*Q) 0 with h3|h3;have:=Int.mul_lt_mul_of_pos_right h3 hp;omega;exact h3
 have J:A/B=Q:=by have:=Int.add_mul_ediv_left (A-B*Q) Q (show B≠0 by omega);simp_all [Int.ediv_eq_zero_of_lt]
 grind [Int.mul_ediv_cancel,XbU]
end Dv
namespace Go.Proofs.YtpdhpbldangmbaaGreatDoor
open Go.Am Go.Tx Dv
def oC (a b:List Int) (n m s:Nat) (t:Nat×List Int×List Int):TM:=dB a b n m s ((t.1:Int)-1)
def ZGl (a b:List Int) (n m s j:Nat) (u q:List Int):oC a b n m s (j+1,u,q)=dB a b n m s (j:Int):=by show dB a b n m s ((j+1:Int)-1)=_;grind
def DInv (V:List Int) (n m:Nat) (U0:Int) (t:Nat×List Int×List Int):Prop:=
 t.1<=m-n+1/\t.2.1.length=m+1/\Wd t.2.1/\t.2.2.length=m-n+1/\Wd (t.2.2.drop t.1)/\wv (t.2.1.drop t.1)<wv (V.take n)/\U0=wv (V.take n)*(4294967296^t.1*wv (t.2.2.drop t.1))+wv t.2.1
def ZpV {V u C q n m j U0 d} (h:DInv V n m U0 (j+1,u,q)) (hj:j+n<=m) (J:n<=m) (R:C.length=m+1) (U:Wd C) (h3:C.take j=u.take j) (h4:wv (C.drop j)=wv (u.drop j)-d*wv (V.take n)) (h5:wv (C.drop j)<wv (V.take n)) (hd:0<=d/\d<4294967296):DInv V n m U0 (j,C,q.set j d):=by
 let⟨i1,i2,i3,i4,i5,i6,i7⟩:=h
 simp only at i1 i2 i3 i4 i5 i6 i7;have I:(q.set j d).drop j=d::q.drop (j+1):=by grind [XaM,Xap,XbA]
 refine⟨by show j<=_;omega,R,U,by show(q.set j d).length=_;rw[Xap];exact i4, ?_,h5, ?_⟩;show Wd ((q.set j d).drop j);rw[I];intro x hx;rcases XaF.1 hx with rfl|hx;exact hd;exact i5 x hx;show U0=wv (V.take n)*(4294967296^j*wv ((q.set j d).drop j))+wv C;rw[I,wv,i7,seg u j oM,seg C j oM,h3,h4,XbB];grind
def ZzA (a b u V q:List Int) (n m s:Nat) (U0:Int) (hn:2<=n) (hm:m<=900000000) (aa:n<=m) (hV:V.length=n+1) (R:Wd V) (bb:2147483648<=V[n-1]'(by omega)) (h0:DInv V n m U0 (m-n+1,u,q)):
 LoopOK prog Zai 0 ⟨117,0,275⟩ (ZaN Tryz.f117 11) (oC a b n m s (m-n+1,u,q)) (dH u V q)
 (λe tm hp=>e= .exit 0/\ ∃ (u' q':List Int) (X Y:SV),DInv V n m U0 (0,u',q')/\tm=(70,X)::(69,Y)::oC a b n m s (0,u',q')/\hp=dH u' V q'):=by
 have ao:n-1<V.length:=oM;have aq:n-2<V.length:=oM;let⟨v1,au⟩: ∃v1,V[n-1]=v1:=⟨_,rfl⟩
 let⟨v2,av⟩: ∃v2,V[n-2]=v2:=⟨_,rfl⟩
 have bc:V[n-1]? =some v1:=by rw[<-au];exact Xac ao
 have bx:V[n-2]? =some v2:=by rw[<-av];exact Xac aq
 have bf:=R _ (XaI ao);have aj:=R _ (XaI aq);rw[au]at bb bf;rw[av]at aj;have eD:=ZxS hn (show n<=V.length by omega);rw[au,av]at eD;let⟨D,I⟩: ∃D,wv (V.take n)=D:=⟨_,rfl⟩
 let⟨P,ab⟩: ∃P:Int,4294967296^(n-2)=P:=⟨_,rfl⟩
 have hP:=ab▸ZFx _;have ak:=Zbu (R.take (n-2));rw[Xaz,XaU oM,ab]at ak;rw[I,ab]at eD;have b7:D<4294967296^n:=by have:=(Zbu (R.take n)).2;rw[Xaz,XaU oM,I]at this;exact this
 have b8:0<D:=by have h1:0<(v1*4294967296+v2)*P:=Int.mul_pos oM hP;omega
 have bg:i64.wrap ((n:Int)-1)=((n-1:Nat):Int):=by rw[Zap oM oM];omega
 have aw:u64.wrap v1=v1:=Zav oM oM;refine Zaq Zaa rfl (oC a b n m s) (λt=>dH t.2.1 V t.2.2) (DInv V n m U0) (λt=>t.1) ?_ (m-n+1,u,q) h0 Zaj;rintro⟨k,u,q⟩ hI;rcases k with _|j;refine Xaa (λh=> ?_) (λh=> ?_);have h':=dT h;omega;exact⟨rfl,u,q,_,_,hI,rfl,rfl⟩
 ·have bh:=hI;(let⟨i1,i2,i3,i4,i5,i6,i7⟩:=hI);simp only at i1 i2 i3 i4 i5 i6 i7;rw[I]at i6;have ad:j+n<=m:=oM;rw[ZGl];have bz:wv (u.drop (j+1+n))=0:=(by rw[<-Xbl];exact ZkF (i3.drop (j+1)) oM);have hz:wv (u.drop (j+n+1))=0:=(by rw[show j+n+1=j+1+n by omega];exact bz);have l0:j+n<u.length:=oM;have l1:j+n-1<u.length:=oM;have l2:j+n-2<u.length:=oM;(let⟨J,ax⟩: ∃x,u[j+n]=x:=⟨_,rfl⟩);(let⟨u1,ay⟩: ∃x,u[j+n-1]=x:=⟨_,rfl⟩);(let⟨u2,az⟩: ∃x,u[j+n-2]=x:=⟨_,rfl⟩);have a1:=i3 _ (XaI l0);have a6:=i3 _ (XaI l1);have al:=i3 _ (XaI l2);have bk:u[j+n]? =some J:=(by rw[<-ax];exact Xac l0);have b0:u[j+n-1]? =some u1:=(by rw[<-ay];exact Xac l1);have b1:u[j+n-2]? =some u2:=(by rw[<-az];exact Xac l2);rw[ax]at a1;rw[ay]at a6;rw[az]at al;have eU:=ZxR hn l0 i3 hz;rw[ax,ay,az,ab]at eU;(let⟨U,ae⟩: ∃U,wv (u.drop j)=U:=⟨_,rfl⟩);rw[ae]at eU;have an:=Zbu ((i3.drop j).take (n-2));rw[Xaz,XbC,XaU oM,ab]at an;have bl:U<D*4294967296:=(by have h1:=ZfQ (show j<u.length by omega);have h2:=i3 _ (XaI (show j<u.length by omega));omega);(let⟨top,ar⟩: ∃top,top=J*4294967296+u1:=⟨_,rfl⟩);rw[<-ar]at eU;have bm:=ZIX hP eD ak.2 aj.2 eU an.1 al.1 bl;have af:i64.wrap ((j:Int)+(n:Int))=((j+n:Nat):Int):=Zap oM oM;have ag:i64.wrap (i64.wrap ((j:Int)+(n:Int))-1)=((j+n-1:Nat):Int):=(by rw[af,Zap oM oM];omega);have bn:top=u64.wrap ((BitVec.ofInt u64.bits (u64.wrap (u64.wrap J*2^min (Int.toNat 32) u64.bits))|||BitVec.ofInt u64.bits (u64.wrap u1)).toNat:Int):=(by rw[Zav (x:=J) oM oM,Zkg a1.1 a1.2 a6.1 a6.2,ar]);have C:0<=top:=oM;have b9:top/v1=u64.wrap ((u64.wrap ((BitVec.ofInt u64.bits (u64.wrap (u64.wrap J*2^min (Int.toNat 32) u64.bits))|||BitVec.ofInt u64.bits (u64.wrap u1)).toNat:Int)).tdiv (u64.wrap v1)):=(by have:top/v1<=top:=Int.ediv_le_self _ C;rw[<-bn,aw,Int.tdiv_eq_ediv_of_nonneg C,Zav (Int.ediv_nonneg C oM) oM]);have cb:top % v1=(u64.wrap ((BitVec.ofInt u64.bits (u64.wrap (u64.wrap J*2^min (Int.toNat 32) u64.bits))|||BitVec.ofInt u64.bits (u64.wrap u1)).toNat:Int)).tmod (u64.wrap v1):=(by rw[<-bn,aw,Int.tmod_eq_emod_of_nonneg C]);refine Xaa (λh=> ?_) (λh=> ?_);(rotate_left);have h':=dF h;omega;have xu: ∀ (w:List Int) (x:Int),w[j+n]? =some x->w[0+(i64.wrap ((j:Int)+(n:Int))).toNat]? =some x:=λw x hx=>by rw[af,Xag,Xab];exact hx
  have bi:(0:Int)<=i64.wrap ((j:Int)+(n:Int))/\i64.wrap ((j:Int)+(n:Int))<((m+1:Nat):Int):=(by rw[af];omega);have bp:(0:Int)<=i64.wrap ((n:Int)-1)/\i64.wrap ((n:Int)-1)<(n:Int):=(by rw[bg];omega);have xv:V[0+(i64.wrap ((n:Int)-1)).toNat]? =some v1:=(by rw[bg,Xag,Xab];exact bc);have bq:u64.wrap v1≠0:=(by rw[aw];omega);refine Xaa bi ?_;refine Exists.intro J (Xaa (xu u J bk) ?_);refine Xaa dC ?_;refine Xaa ⟨by rw[ag];omega,by rw[ag];show((j+n-1:Nat):Int)<((m+1:Nat):Int);omega⟩ ?_;refine Exists.intro u1 (Xaa (by show u[0+(i64.wrap (i64.wrap ((j:Int)+(n:Int))-1)).toNat]? =some u1;rw[ag,Xag,Xab];exact b0) ?_);refine Xaa bp ?_;refine Exists.intro v1 (Xaa xv ?_);refine Xaa bq ?_;refine Xaa bp ?_;refine Exists.intro v1 (Xaa xv ?_);refine Xaa bq ?_;refine((ZAM a b u V q n m s j top D U P _ _ v1 v2 u2 hn oM ad aa i2 hV bc bx b1 hP eD ak.1 ak.2 bb bf.2 aj.1 aj.2 eU an.1 an.2 al.1 al.2 C bm bl).ent ?_).through ?_;exact eO;rintro _ tm hp ⟨rfl,g,rest,⟨g0,g1,gU,gL⟩,hE⟩;refine⟨_,_,hE, ?_⟩;refine((ZCt a b u V q n m s j g oM ad aa i2 i3 hV R g0 g1).ent ?_).mono ?_;exact eO;rintro _ _ _ ⟨rfl,bo,ca,u',X,⟨k1,k2,k3,k4,k5,k6,k7,k8,k9⟩,rfl,rfl⟩;rw[I]at k9;have gz:u'[j+n]? =some J:=(by have e1:(u'.drop (j+n))[0]? =(u.drop (j+n))[0]? :=(by rw[k8]);rw[List.getElem?_drop,List.getElem?_drop,Nat.add_zero]at e1;rw[e1];exact bk);have ez:u'[j+n]=J:=(by(let⟨_,h⟩:=Xaf.1 gz);exact h);(let⟨b2,bs⟩: ∃b2,b2=bo+(J-ca):=⟨_,rfl⟩);have f16:i64.wrap (bo+i64.wrap (i64.wrap J-i64.wrap ca))=b2:=(by rw[Zap (x:=J) oM oM,Zap (x:=ca) oM oM,Zap (x:=J-ca) oM oM,Zap oM oM,bs]);have er:u'.set (j+n) (b2 % 4294967296)=u'.set (0+(i64.wrap ((j:Int)+(n:Int))).toNat) (u32.wrap (i64.wrap (bo+i64.wrap (i64.wrap J-i64.wrap ca)))):=(by rw[f16,af,Xag,Xab,Zbm]);have ah:=ZwZ (u':=u') oM l0 k7 ez bs k9;rw[ae]at ah;(let⟨w,ew⟩: ∃w,u'.set (j+n) (b2 % 4294967296)=w:=⟨_,rfl⟩);have wl:w.length=m+1:=(by rw[<-ew,Xap];exact k5);have ww:Wd w:=(by rw[<-ew];intro y hy;rcases Xbx hy with hy|rfl;exact k6 y hy;omega);have wt:w.take j=u.take j:=(by rw[<-ew,XbK oM,k7]);have wd:w.drop (j+n+1)=u.drop (j+n+1):=(by rw[<-ew,XbA oM,<-Xbl,k8,Xbl]);have wz:=Zzp (ww.drop j) (by rw[Xbl,show j+(n+1)=j+n+1 by omega,wd];exact hz);rw[ew]at er ah;have wn:=wvn (ww.drop j);have wi:i64.wrap ((j:Int)-1)=(j:Int)-1:=Zap oM oM;have cc:=ZFx (n+1);have bj:(0:Int)<=(j:Int)/\(j:Int)<((m-n+1:Nat):Int):=oM;have ql:j<q.length:=oM;have gq:q[0+(j:Int).toNat]? =some q[j]:=(by rw[Xag,Xab];exact Xac ql);have bt: ∀d:Int,0<=d->d<4294967296->q.set j d=q.set (0+(j:Int).toNat) (u32.wrap d):=λd b3 b4=>by rw[Xag,Xab,Zbm,Int.emod_eq_of_lt b3 b4]
  refine Xaa bi ?_;refine Exists.intro J (Xaa (xu u' J gz) ?_);refine Xaa bi ?_;refine Exists.intro J (Xaa (xu u' J gz) ?_);refine Xaa (λh2=> ?_) (λh2=> ?_);have a7:=dT h2;rw[f16]at a7;have hdiv:b2/4294967296= -1:=oM;rw[hdiv]at ah;have fg:u64.wrap (g-1)=g-1/\1<=g:=(by have:1<=g:=(by rcases Int.lt_or_le g 1 with h|h;have b5:g=0:=oM;subst b5;have cd:=ae▸wvn (i3.drop j);rw[Int.zero_mul]at ah;omega;exact h);exact⟨Zav oM oM,this⟩);refine((ZyZ a b w V q n m s j (g-1) oM ad aa wl ww hV R).ent ?_).mono ?_;refine Zbx rfl rfl ?_ ?_;exact⟨fg.1.symm,rfl,rfl,rfl,rfl,rfl,⟨rfl,rfl,rfl⟩,rfl,⟨rfl,rfl,rfl⟩,⟨rfl,rfl,rfl⟩,rfl,rfl,trivial⟩;exact⟨⟨er,λ_=>rfl⟩,⟨rfl,λ_=>rfl⟩,⟨rfl,λ_=>rfl⟩,trivial⟩;rintro _ _ _ ⟨rfl,c,u3,X3,⟨c1,c2,c3,c4,c5,c6,c7⟩,rfl,rfl⟩;rw[I]at c7;have l3:j+n<u3.length:=oM;(let⟨z3,a8⟩: ∃z,u3[j+n]=z:=⟨_,rfl⟩);have bu:u3[j+n]? =some z3:=(by rw[<-a8];exact Xac l3);have b6:=c4 _ (XaI l3);rw[a8]at b6;(let⟨y,ey⟩: ∃y,y=z3+c:=⟨_,rfl⟩);have ba:=Zyw (u':=u3) oM oM c5 a8 ey c7;have bw:u3.set (j+n) (y % 4294967296)=u3.set (0+(i64.wrap ((j:Int)+(n:Int))).toNat) (u32.wrap (z3+u32.wrap c)):=(by rw[af,Xag,Xab,Zbm c,Zbm,Int.emod_eq_of_lt c1 oM,ey]);(let⟨u4,ai⟩: ∃u4,u3.set (j+n) (y % 4294967296)=u4:=⟨_,rfl⟩);have l4:u4.length=m+1:=(by rw[<-ai,Xap];exact c3);have w4:Wd u4:=(by rw[<-ai];intro x hx;rcases Xbx hx with hx|rfl;exact c4 x hx;omega);have t4:u4.take j=u.take j:=(by rw[<-ai,XbK oM,c5,wt]);have d4:u4.drop (j+n+1)=u.drop (j+n+1):=(by rw[<-ai,XbA oM,<-Xbl,c6,Xbl,wd]);have z4:=Zzp (w4.drop j) (by rw[Xbl,show j+(n+1)=j+n+1 by omega,d4];exact hz);have n4:=wvn (w4.drop j);rw[ai]at bw ba;have cf:(g-1)*D=g*D-D:=(by grind);have hy:y/4294967296=1:=(by rcases(show y/4294967296=0\/y/4294967296=1 by omega)with h|h;rw[h]at ba;omega;exact h);rw[hy]at ba;have h4:wv (u4.drop j)=U-(g-1)*D:=oM;refine Xaa bi ?_;refine Exists.intro z3 (Xaa (xu u3 z3 bu) ?_);refine Xaa bi ?_;refine Exists.intro z3 (Xaa (xu u3 z3 bu) ?_);refine Xaa bj ?_;refine Exists.intro (q[j]) (Xaa gq ?_);refine⟨(j,u4,q.set j (g-1)),ZpV bh ad aa l4 w4 t4 (by rw[ae,I];exact h4) (by rw[I];omega) ⟨oM,oM⟩,XaA j, ?_⟩;refine Zbx rfl rfl ?_ ?_;exact⟨rfl,rfl,⟨rfl,rfl,rfl⟩,rfl,⟨rfl,rfl,rfl⟩,⟨rfl,rfl,rfl⟩,rfl,wi.symm,trivial⟩;exact⟨⟨bw,λ_=>rfl⟩,⟨rfl,λ_=>rfl⟩,⟨bt _ oM oM,λ_=>rfl⟩,trivial⟩;have a7:=dF h2;rw[f16]at a7;have hdiv:b2/4294967296=0:=oM;rw[hdiv]at ah;refine Xaa bj ?_;refine Exists.intro (q[j]) (Xaa gq ?_);refine⟨(j,w,q.set j g),ZpV bh ad aa wl ww wt (by rw[ae,I];omega) (by rw[I];omega) ⟨g0,g1⟩,XaA j, ?_⟩;refine Zbx rfl rfl ?_ ?_;exact⟨rfl,rfl,⟨rfl,rfl,rfl⟩,rfl,⟨rfl,rfl,rfl⟩,⟨rfl,rfl,rfl⟩,rfl,wi.symm,trivial⟩;exact⟨⟨er,λ_=>rfl⟩,⟨rfl,λ_=>rfl⟩,⟨bt _ g0 g1,λ_=>rfl⟩,trivial⟩
def Zv3 (a b:List Int) (ha:Wd a) (hb:Wd b) (hl:a.length<=1000000000) (ad:b.length<=1000000000):PureOK prog Zai 106 [ZbC a,ZbC b] (λV=> ∃r:Int,V= .v (.i .i64) r/\(a.length≠b.length->r=a.length-b.length)/\(a.length=b.length->(r<0<->wv a<wv b)/\(r=0<->wv a=wv b))):=by
 refine Zae Zaa func106 ?_;refine Xaa (λh=> ?_) (λh=> ?_);have J:a.length≠b.length:=λe=>by have I:(!decide ((a.length:Int)=b.length))=true:=h;rw[e]at I;simp at I
 exact⟨_,rfl,λ_=>Zap (by omega) (by omega),λe=>absurd e J⟩;have j:a.length=b.length:=by have I:(a.length:Int)=b.length:=(by simpa using h);omega
 refine Zaq Zaa rfl (λ(k:Nat)=> [(0,ZbC a),(1,ZbC b),(5, .v (.i .i64) ((k:Int)-1))]) (λ_=> [])
   (λk=>k<=a.length/\a.drop k=b.drop k) (λk=>k) ?_ a.length ?_ ?_
 rintro k ⟨hk,hd⟩;refine Xaa (λh=> ?_) (λh=> ?_);have ae:1<=k:=by have:=dT h;omega
 obtain⟨m,rfl⟩: ∃m,k=m+1:=⟨k-1,by omega⟩;have hm:m<a.length:=by omega
 have ix:(((m+1:Nat):Int)-1).toNat=m:=by omega
 have C:(0:Int)<=((m+1:Nat):Int)-1:=by omega
 have R:a[(((m+1:Nat):Int)-1).toNat]? =some a[m]:=by rw[ix];exact Xac hm
 have U:b[(((m+1:Nat):Int)-1).toNat]? =some b[m]:=by rw[ix];exact Xac (by omega)
 refine⟨a[m],C,R, ?_⟩;refine⟨b[m],C,U, ?_⟩;refine Xaa (λh2=> ?_) (λh2=> ?_);refine⟨a[m],C,R, ?_⟩;refine⟨b[m],C,U, ?_⟩;refine Xaa (λh3=> ?_) (λh3=> ?_);have aa:a[m]<b[m]:=dT h3;have hv:=Zzg ha hb hm j hd aa;exact⟨-1,rfl,λe=>absurd j e,λ_=>⟨by omega,by omega⟩⟩;have af: ¬a[m]<b[m]:=dF h3;have J:a[m]≠b[m]:=λe=>by have I:(!decide (a[m]=b[m]))=true:=h2;rw[e]at I;simp at I
 have hv:=Zzg hb ha (by omega:m<b.length) j.symm hd.symm (by omega);exact⟨1,rfl,λe=>absurd j e,λ_=>⟨by omega,by omega⟩⟩;have he:a[m]=b[m]:=by have I:(!decide (a[m]=b[m]))=false:=h2;simpa using I
 refine⟨m,⟨by show m<=a.length;omega, ?_⟩,by show m<m+1;omega, ?_⟩;show a.drop m=b.drop m;rw[XaM hm,XaM (by omega:m<b.length),he,hd];refine Zbx rfl rfl ?_ ?_;exact⟨rfl,rfl,((Zap (by omega) (by omega)).trans (by omega):i64.wrap (((m+1:Nat):Int)-1-1)=(m:Int)-1).symm,trivial⟩;exact trivial;have ab:k=0:=by have:=dF h;omega
 subst ab;rw[XaP,XaP]at hd;exact⟨0,rfl,λe=>absurd j e,λ_=>⟨by rw[hd];omega,by rw[hd];simp⟩⟩;exact⟨Xae _,by rw[Xbo,List.drop_of_length_le (by omega)]⟩;refine Zbx rfl rfl ?_ ?_;exact⟨rfl,rfl,(Zap (by omega) (by omega)).symm,trivial⟩;exact trivial
def ZAD (m n:Nat) (hm:(wOf m).length<=1000000000) (hn:(wOf n).length<=1000000000):PureOK prog Zai 106 [ZbC (wOf m),ZbC (wOf n)] (λV=> ∃r:Int,V= .v (.i .i64) r/\(r<0<->m<n)/\(r=0<->m=n)):=by
 refine(Zv3 _ _ (Zeh m) (Zeh n) hm hn).mono ?_;rintro _ ⟨r,rfl,j,C⟩;refine⟨r,rfl, ?_⟩;by_cases he:(wOf m).length=(wOf n).length;obtain⟨I,J⟩:=C he;rw[ZcV,ZcV]at I J;omega;have j:=j he;have g1:(wOf m).length<(wOf n).length->m<n:=λh=>by rcases Xa8 m n with h'|h';exact h';have:=ZbT h';omega
 have g2:(wOf n).length<(wOf m).length->n<m:=λh=>by rcases Xa8 n m with h'|h';exact h';have:=ZbT h';omega
 omega
def ZG4 (a b:Int) (U:ln a<=900000000) (hb:ln b<=900000000):PureOK prog Zai 88 [IS a,IS b] (λV=>V=IS (a+b)):=by
 have aa:(wOf a.natAbs).length<=900000000:=U;have ab:(wOf b.natAbs).length<=900000000:=hb;refine Zae Zaa func88 ?_;refine Xaa rfl ?_;refine Xaa rfl ?_;refine Xaa (λh=> ?_) (λh=> ?_)
 ·refine Xaa rfl ?_;refine Xaa rfl ?_;refine Xaa rfl ?_;refine(Zv6 _ _ (Zeh _) (Zeh _) oM oM).mono ?_;rintro _ ⟨out,rfl,j,I,J⟩;refine(ZfC _ out j oM).mono ?_;rintro _ rfl;refine⟨rfl,rfl, ?_⟩;have C:(decide (a<0)==decide (b<0))=true:=h;have:sg (decide (a<0)) (wv out)=a+b:=by
   rw[J,ZcV,ZcV];by_cases R:a<0<;>by_cases j:b<0<;>simp only[decide_eq_true,decide_eq_false,R,j,not_false_eq_true]at C|- <;>first
    |(simp at C;done)
    |(simp only[sg];omega)
  show IS (sg (decide (a<0)) (wv out))=IS (a+b);rw[this]
 ·have C:(decide (a<0)==decide (b<0))=false:=h;refine Xaa rfl ?_;refine Xaa rfl ?_;refine(ZAD _ _ oM oM).mono ?_;rintro _ ⟨r,rfl,ad,ae⟩;refine Xaa (λI=> ?_) (λI=> ?_)
  ·have hr:0<=r:=dT I;have hle:b.natAbs<=a.natAbs:=oM;refine Xaa rfl ?_;refine Xaa rfl ?_;refine Xaa rfl ?_;refine(ZmS _ _ (Zeh _) (Zeh _) (ZbT hle) oM (by rw[ZcV,ZcV];omega)).mono ?_;rintro _ ⟨out,rfl,j,I,J⟩;refine(ZfC _ out j oM).mono ?_;rintro _ rfl;refine⟨rfl,rfl, ?_⟩;have:sg (decide (a<0)) (wv out)=a+b:=by
    rw[J,ZcV,ZcV];by_cases R:a<0<;>by_cases j:b<0<;>simp only[decide_eq_true,decide_eq_false,R,j,not_false_eq_true]at C|- <;>first
     |(simp at C;done)
     |(simp only[sg];omega)
   show IS (sg (decide (a<0)) (wv out))=IS (a+b);rw[this]
  ·have hr: ¬0<=r:=dF I;have hle:a.natAbs<=b.natAbs:=oM;refine Xaa rfl ?_;refine Xaa rfl ?_;refine Xaa rfl ?_;refine(ZmS _ _ (Zeh _) (Zeh _) (ZbT hle) oM (by rw[ZcV,ZcV];omega)).mono ?_;rintro _ ⟨out,rfl,j,I,J⟩;refine(ZfC _ out j oM).mono ?_;rintro _ rfl;refine⟨rfl,rfl, ?_⟩;have:sg (decide (b<0)) (wv out)=a+b:=by
    rw[J,ZcV,ZcV];by_cases R:a<0<;>by_cases j:b<0<;>simp only[decide_eq_true,decide_eq_false,R,j,not_false_eq_true]at C|- <;>first
     |(simp at C;done)
     |(simp only[sg];omega)
   show IS (sg (decide (b<0)) (wv out))=IS (a+b);rw[this]
def ZLk (a b:Int) (j:ln a<=900000000) (C:ln b<=900000000):PureOK prog Zai 119 [IS a,IS b] (λV=>V=IS (a-b)):=by refine Zae Zaa func119 ?_;refine Xaa rfl ?_;refine Xaa rfl ?_;refine(ZCJ b (by omega)).mono ?_;rintro _ rfl;refine(ZG4 a (-b) j (by rw[Zvd];exact C)).mono ?_;rintro _ rfl;refine⟨rfl,rfl, ?_⟩;show IS (a+ -b)=IS (a-b);rw[Int.sub_eq_add_neg]
def ZL8:List UInt8:=[0,1]++List.replicate 2 2++List.replicate 4 3++List.replicate 8 4++List.replicate 16 5++List.replicate 32 6++List.replicate 64 7++List.replicate 128 8
def ZBD: ∀j:Fin 256,∃L:Fin 9,ZL8[j.val]? =some (UInt8.ofNat L.val)/\j.val<2^L.val/\(1<=j.val->1<=L.val/\2^(L.val-1)<=j.val):=by decide+kernel
def ZoJ (j:Int) (I:0<=j) (J:j<256): ∃L:Nat,ZL8[j.toNat]? =some (UInt8.ofNat L)/\L<=8/\(UInt8.ofNat L).toNat=L/\j<2^L/\(1<=j->1<=L/\2^(L-1)<=j):=by
 let⟨⟨L,R⟩,C,U,h4⟩:=ZBD ⟨j.toNat,oM⟩
 refine⟨L,C,oM,by rw[UInt8.toNat_ofNat'];omega, ?_,λh=> ?_⟩;grind;grind
def Zfl {x:Int} (j:0<=x) (C:x<256):u8.wrap x=x:=by unfold IntKind.wrap IntKind.signed IntKind.bits;grind
def ZAq (x:Int) k (j:k<=32):x.fdiv (2^min k u32.bits)=x/2^k:=by
 have:min k u32.bits=k:=by show min k 32=k;omega
 grind
def Zr1 {x y:Int} {k L} (I:y=x/2^k) (J:y<2^L) (j:1<=y->1<=L/\2^(L-1)<=y) (C:1<=x->1<=y):x<2^(k+L)/\(1<=x->1<=k+L/\2^(k+L-1)<=x):=by
 have hp:(0:Int)<2^k:=Xb0 dC;constructor;rw[Int.pow_add,Int.mul_comm];simp_all [Int.lt_mul_of_ediv_lt];intro h;let⟨R,U⟩:=j (C h)
 refine⟨oM, ?_⟩;rw[show k+L-1=k+(L-1)by omega,Int.pow_add,Int.mul_comm];simp_all [Int.le_ediv_iff_mul_le]
def j0 (a b:Int) (e:a=b) (h:0<=b):0<=a:=oM
def ZHn (x:Int) (h0:0<=x) (h1:x<4294967296):PureOK prog Zai 139 [.v (.i .u32) x] (λV=> ∃L:Nat,V= .v (.i .i64) (L:Int)/\L<=32/\x<2^L/\(1<=x->1<=L/\2^(L-1)<=x)):=by
 refine Zae Zaa func139 ?_;have I:x.fdiv (2^min (Int.toNat 16) u32.bits)=x/65536:=ZAq x 16 dC;have U: ∀x:Int,x.fdiv (2^min (Int.toNat 8) u32.bits)=x/256:=λx=>ZAq x 8 dC
 refine Xaa (λh=> ?_) (λh=> ?_);have hx:65536<=x:=dT h;refine Xaa dC ?_;refine Xaa (λJ=> ?_) (λJ=> ?_);have R:256<=x.fdiv (2^min (Int.toNat 16) u32.bits):=dT J;refine Xaa dC ?_;have j:u8.wrap ((x.fdiv (2^min (Int.toNat 16) u32.bits)).fdiv (2^min (Int.toNat 8) u32.bits))=x/65536/256:=by rw[U,I];exact Zfl oM oM
 obtain⟨L,t1,t2,t3,t4,t5⟩:=ZoJ (u8.wrap ((x.fdiv (2^min (Int.toNat 16) u32.bits)).fdiv (2^min (Int.toNat 8) u32.bits))) (by rw[j];omega) (by rw[j];omega);have C:=j0 _ _ j oM;refine⟨UInt8.ofNat L,C,t1, ?_⟩;rw[I]at R;rw[j]at t4 t5;obtain⟨g1,g2⟩:=Zr1 (x:=x) (y:=x/65536/256) (k:=24) (by rw[Int.ediv_ediv_of_nonneg dC];rfl) t4 t5 oM;refine⟨24+L,congrArg (SV.v (.i .i64)) (?_:i64.wrap (i64.wrap (16+8)+i64.wrap ((UInt8.ofNat L).toNat:Int))=_),oM,g1,g2⟩;rw[t3,Zap (x:=(16+8:Int)) dC dC,Zap (x:=(L:Int)) oM oM,Zap oM oM];omega;have R: ¬256<=x.fdiv (2^min (Int.toNat 16) u32.bits):=dF J;rw[I]at R;have j:u8.wrap (x.fdiv (2^min (Int.toNat 16) u32.bits))=x/65536:=by rw[I];exact Zfl oM oM
 obtain⟨L,t1,t2,t3,t4,t5⟩:=ZoJ (u8.wrap (x.fdiv (2^min (Int.toNat 16) u32.bits))) (by rw[j];omega) (by rw[j];omega);have C:=j0 _ _ j oM;refine⟨UInt8.ofNat L,C,t1, ?_⟩;rw[j]at t4 t5;obtain⟨g1,g2⟩:=Zr1 (x:=x) (y:=x/65536) (k:=16) rfl t4 t5 oM;refine⟨16+L,congrArg (SV.v (.i .i64)) (?_:i64.wrap (16+i64.wrap ((UInt8.ofNat L).toNat:Int))=_),oM,g1,g2⟩;rw[t3,Zap (x:=(L:Int)) oM oM,Zap oM oM];omega;have hx: ¬65536<=x:=dF h;refine Xaa (λJ=> ?_) (λJ=> ?_);have R:256<=x:=dT J;refine Xaa dC ?_;have j:u8.wrap (x.fdiv (2^min (Int.toNat 8) u32.bits))=x/256:=by rw[U];exact Zfl oM oM
 obtain⟨L,t1,t2,t3,t4,t5⟩:=ZoJ (u8.wrap (x.fdiv (2^min (Int.toNat 8) u32.bits))) (by rw[j];omega) (by rw[j];omega);have C:=j0 _ _ j oM;refine⟨UInt8.ofNat L,C,t1, ?_⟩;rw[j]at t4 t5;obtain⟨g1,g2⟩:=Zr1 (x:=x) (y:=x/256) (k:=8) rfl t4 t5 oM;refine⟨8+L,congrArg (SV.v (.i .i64)) (?_:i64.wrap (i64.wrap (0+8)+i64.wrap ((UInt8.ofNat L).toNat:Int))=_),oM,g1,g2⟩;rw[t3,Zap (x:=(0+8:Int)) dC dC,Zap (x:=(L:Int)) oM oM,Zap oM oM];omega;have R: ¬256<=x:=dF J;have j:u8.wrap x=x:=Zfl oM oM;let⟨L,t1,t2,t3,t4,t5⟩:=ZoJ (u8.wrap x) (by rw[j];omega) (by rw[j];omega)
 have C:=j0 _ _ j oM;refine⟨UInt8.ofNat L,C,t1, ?_⟩;rw[j]at t4 t5;refine⟨L,congrArg (SV.v (.i .i64)) (?_:i64.wrap (0+i64.wrap ((UInt8.ofNat L).toNat:Int))=_),oM,t4,t5⟩;rw[t3,Zap (x:=(L:Int)) oM oM,Zap oM oM];omega
def ZjZ (x:Int) (j:1<=x) (C:x<4294967296):PureOK prog Zai 132 [.v (.i .u32) x] (λV=> ∃s:Nat,V= .v (.i .i64) (s:Int)/\s<=31/\x*2^s<4294967296/\2147483648<=x*2^s):=by
 refine Zae Zaa func132 ?_;refine(ZHn x oM C).mono ?_;rintro _ ⟨L,rfl,U,I,J⟩;let⟨h5,R⟩:=J j
 refine⟨32-L,congrArg (SV.v (.i .i64)) (?_:i64.wrap (32-(L:Int))=_),oM, ?_, ?_⟩;rw[Zap oM oM];omega;have hp:(0:Int)<2^(32-L):=Xb0 dC;have:=Int.mul_lt_mul_of_pos_right I hp;rw[<-Int.pow_add,show L+(32-L)=32 by omega]at this;exact this;have hp:(0:Int)<=2^(32-L):=Xbw (Xb0 dC);have:=Xa4 R hp;rw[<-Int.pow_add,show L-1+(32-L)=31 by omega]at this;exact this
end Go.Proofs.YtpdhpbldangmbaaGreatDoor
