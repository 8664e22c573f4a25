/- Integers of any size: Mul. -/
import Derived.Test.YtplkkbcnilnfaaaGreatDoorT4
set_option linter.all false
set_option maxHeartbeats 8000000
set_option maxRecDepth 100000
open Go.Proofs.Tryz
open Go.IntKind(i64 u32 u64)
namespace Go.Proofs.YtplkkbcnilnfaaaGreatDoor
open Go.Am Go.Tx Dv
def Zzd {a out Zcm:List Int} {i k:Nat} {c x y v J:Int} (j:i+k<out.length) (hd:out.drop (i+k)=Zcm.drop (i+k)) (R:v=c+out[i+k]+x*y)
 (h:wv (out.take (i+k))+4294967296^(i+k)*c=wv (Zcm.take (i+k))+4294967296^i*(x*J)):
 wv ((out.set (i+k) (v % 4294967296)).take (i+k+1))+4294967296^(i+k+1)*(v/4294967296)=wv (Zcm.take (i+k+1))+4294967296^i*(x*(J+4294967296^k*y)):=by
 have hl:out.length=Zcm.length\/True:= .inr trivial;have C:Zcm[i+k]? =some out[i+k]:=by have:(out.drop (i+k))[0]? =(Zcm.drop (i+k))[0]? :=(by rw[hd]);rw[XbQ,XbQ,Nat.add_zero,Xad j]at this;exact this.symm
 obtain⟨I,C⟩:=Xae.1 C;rw[ZcE j,ZeW,Zcb I,C,Xay,XaQ (XbY j),XbR];have e:v % 4294967296+4294967296*(v/4294967296)=v:=Xbi v 4294967296;have U:wv [v % 4294967296]=v % 4294967296:=by simp[wv]
 have e2:(4294967296:Int)^(i+k)*(v % 4294967296)+4294967296^(i+k)*4294967296*(v/4294967296)=4294967296^(i+k)*v:=by rw[Int.mul_assoc,<-Int.mul_add,e]
 have e3:(4294967296:Int)^(i+k)=4294967296^i*4294967296^k:=Int.pow_add ..;rw[U,Int.add_assoc,e2,R];generalize(4294967296:Int)^i=p at*;generalize(4294967296:Int)^k=q at*;rw[e3]at h|-;grind
def ZAm (A B:SV) (out:List Int):List SM:=[.cell (Zbr A) true, .cell (Zbr B) true, .cell [.v .b false, .nils] true, .row (.i .u32) out true]
def ZH0 (a b:List Int) (n i:Nat) (x:Int) (s:Nat×Int×List Int):TM:=
 [(2, .ptr 0 0 0),(3, .ptr 1 0 0),(4, .ptr 2 0 0),(5, .ref 3 0 n none),(6, .v (.i .i64) (i:Int)),(7, .v (.i .u32) x),(8, .v (.i .u64) s.2.1),(20,Zby a),(21, .v (.i .i64) (a.length:Int)),(22, .v (.i .i64) (i:Int)),(28,Zby b),(29, .v (.i .i64) (b.length:Int)),(30, .v (.i .i64) (s.1:Int))]
def ZIu (A B:Int) (a b Zcm:List Int) (n i:Nat) (x:Int) (hb:Wd b) (hx:0<=x/\x<4294967296) (hn:Zcm.length=n) (hi:i+b.length<=n) (af:n<=2000000000) (ab:Wd Zcm):
 LoopOK prog Zaj 0 ⟨75,0,77⟩ (Za6 Tryz.f75 7) (ZH0 a b n i x (0,0,Zcm)) (ZAm (IS A) (IS B) Zcm)
 (λe tm hp=>e= .exit 2/\ ∃c out X,0<=c/\c<4294967296/\out.length=n/\Wd out/\wv (out.take (i+b.length))+4294967296^(i+b.length)*c=wv (Zcm.take (i+b.length))+4294967296^i*(x*wv b)/\tm=(31,X)::ZH0 a b n i x (b.length,c,out)/\hp=ZAm (IS A) (IS B) out):=by
 refine Zap Zab rfl (ZH0 a b n i x) (λs=>ZAm (IS A) (IS B) s.2.2)
  (λs=>s.1<=b.length/\0<=s.2.1/\s.2.1<4294967296/\s.2.2.length=n/\Wd s.2.2/\s.2.2.drop (i+s.1)=Zcm.drop (i+s.1)/\wv (s.2.2.take (i+s.1))+4294967296^(i+s.1)*s.2.1=wv (Zcm.take (i+s.1))+4294967296^i*(x*wv (b.take s.1))) (λs=>b.length-s.1) ?_ (0,0,Zcm) ?_ Zar
 rintro⟨k,c,out⟩ ⟨hk,R,U,hlen,C,hd,j⟩;simp only at hk R U hlen C hd j;refine Xab (λh=> ?_) (λh=> ?_);have I:k<b.length:=by have:=of_decide_eq_true h;simp only at this;omega
 have aa:=hb _ (XaI I);have ho:i+k<out.length:=by omega
 have ag:=C _ (XaI ho);have J:i64.wrap ((i:Int)+(k:Int))=((i+k:Nat):Int):=Zat (by omega) (by omega);have et:(i64.wrap ((i:Int)+(k:Int))).toNat=i+k:=by rw[J];omega
 have e0:(0:Int)<=i64.wrap ((i:Int)+(k:Int)):=by rw[J];omega
 have e1:i64.wrap ((i:Int)+(k:Int))<(n:Int):=by rw[J];omega
 have ad:0<=x*b[k]:=XbL hx.1 aa.1;have ae:x*b[k]<=4294967295*4294967295:=Int.mul_le_mul (by omega) (by omega) aa.1 (by omega);have ev:u64.wrap (c+u64.wrap (u64.wrap out[i+k]+u64.wrap (u64.wrap x*u64.wrap b[k])))=c+out[i+k]+x*b[k]:=by rw[Zas (x:=out[i+k]) (by omega) (by omega),Zas (x:=x) (by omega) (by omega),Zas (x:=b[k]) (by omega) (by omega),Zas (x:=x*b[k]) (by omega) (by omega),Zas (x:=out[i+k]+x*b[k]) (by omega) (by omega),Zas (by omega) (by omega)];omega
 refine⟨b[k],XaH k,Xad I, ?_⟩;refine Xab ⟨e0,e1⟩ ?_;refine Exists.intro (out[i+k]) (Xab (by show out[0+(i64.wrap ((i:Int)+(k:Int))).toNat]? =_;rw[et,Xak];exact Xad ho) ?_);refine Xab ⟨e0,e1⟩ ?_;refine Exists.intro (out[i+k]) (Xab (by show out[0+(i64.wrap ((i:Int)+(k:Int))).toNat]? =_;rw[et,Xak];exact Xad ho) ?_);refine Xab (by decide) ?_;obtain⟨v,hv⟩: ∃v,v=c+out[i+k]+x*b[k]:=⟨_,rfl⟩;rw[<-hv]at ev;have ec:v/4294967296=(u64.wrap (c+u64.wrap (u64.wrap out[i+k]+u64.wrap (u64.wrap x*u64.wrap b[k])))).fdiv (2^min (Int.toNat 32) u64.bits):=by rw[ev,Zqy]
 have er:out.set (i+k) (v % 4294967296)=out.set (0+(i64.wrap ((i:Int)+(k:Int))).toNat) (u32.wrap (u64.wrap (c+u64.wrap (u64.wrap out[i+k]+u64.wrap (u64.wrap x*u64.wrap b[k]))))):=by rw[ev,et,Zbl,Xak]
 have wi:i64.wrap ((k:Int)+1)=((k+1:Nat):Int):=Zat (by omega) (by omega);refine⟨(k+1,v/4294967296,out.set (i+k) (v % 4294967296)),⟨I, ?_, ?_, ?_, ?_, ?_, ?_⟩, ?_, ?_⟩;show 0<=v/4294967296;omega;show v/4294967296<4294967296;omega;show(out.set _ _).length=_;simpa using hlen;intro y hy;rcases Xa4 hy with hy|rfl;exact C y hy;omega;show(out.set (i+k) _).drop (i+(k+1))=_;rw[XbU (by omega),show i+(k+1)=(i+k)+1 by omega,<-Xbm,hd,Xbm];show wv ((out.set (i+k) _).take (i+(k+1)))+_=_;rw[Zcb I];exact Zzd (a:=a) ho hd hv j;show b.length-(k+1)<b.length-k;omega;refine ZaH rfl rfl ?_ ?_;exact⟨⟨rfl,rfl⟩,⟨rfl,rfl⟩,⟨rfl,rfl⟩,⟨rfl,rfl,rfl⟩,rfl,rfl,ec,rfl,rfl,rfl,rfl,rfl,wi.symm,trivial⟩;exact⟨⟨⟨rfl,rfl,trivial⟩,λ_=>rfl⟩,⟨⟨rfl,rfl,trivial⟩,λ_=>rfl⟩,⟨⟨rfl,trivial,trivial⟩,λ_=>rfl⟩,⟨er,λ_=>rfl⟩,trivial⟩;have he:k=b.length:=by have:=of_decide_eq_false h;simp only at this;omega
 subst he;rw[Xa3]at j;exact⟨rfl,c,out,_,R,U,hlen,C,j,rfl,rfl⟩;exact⟨Xap _,Xbw _,by show(0:Int)<4294967296;decide,hn,ab,rfl,by simp[wv]⟩
def ZJp (a:List Int) (n:Nat) (s:Nat×List Int):TM:=
 [(2, .ptr 0 0 0),(3, .ptr 1 0 0),(4, .ptr 2 0 0),(5, .ref 3 0 n none),(20,Zby a),(21, .v (.i .i64) (a.length:Int)),(22, .v (.i .i64) (s.1:Int))]
def Zlm (A B:Int) (hA:ln A<=400000000) (hB:ln B<=400000000):PureOK prog Zaj 75 [IS A,IS B] (λV=>V=IS (A*B)):=by
 refine Zad Zab func75 ?_;obtain⟨a,ha⟩: ∃a,wOf A.natAbs=a:=⟨_,rfl⟩;obtain⟨b,J⟩: ∃b,wOf B.natAbs=b:=⟨_,rfl⟩;have al:a.length<=400000000:=by rw[<-ha];exact hA
 have an:b.length<=400000000:=by rw[<-J];exact hB
 have ag:Wd a:=ha▸Zd3 _;have ah:Wd b:=J▸Zd3 _;have ai:wv a=A.natAbs:=by rw[<-ha];exact ZcG _
 have aj:wv b=B.natAbs:=by rw[<-J];exact ZcG _
 have ea:IS A= .agg [.v .b (decide (A<0)),Zby a]:=by rw[<-ha]
 have eb:IS B= .agg [.v .b (decide (B<0)),Zby b]:=by rw[<-J]
 rw[ea,eb];refine Xab rfl ?_;refine Xab rfl ?_;have w1:i64.wrap ((a.length:Int)+(b.length:Int))=((a.length+b.length:Nat):Int):=Zat (by omega) (by omega);have w3:a.length+b.length=(i64.wrap ((a.length:Int)+(b.length:Int))).toNat:=by rw[w1];omega
 have w2: ∀x:Int,x=((a.length+b.length:Nat):Int)->0<=x/\x<=x/\(4:Int)*x<=281474976710656/\x<9223372036854775808:=λx hx=>by omega
 have w4:List.replicate (a.length+b.length) (0:Int)=List.replicate (i64.wrap ((a.length:Int)+(b.length:Int))).toNat 0:=by rw[<-w3]
 refine Xab (w2 _ w1) ?_;refine Xab rfl ?_;refine Zap Zab rfl (ZJp a (a.length+b.length)) (λs=>ZAm (IS A) (IS B) s.2)
  (λs=>s.1<=a.length/\s.2.length=a.length+b.length/\Wd s.2/\wv (s.2.take (s.1+b.length))=wv (a.take s.1)*wv b) (λs=>a.length-s.1) ?_ (0,List.replicate (a.length+b.length) 0) ?_ ?_
 rintro⟨i,out⟩ ⟨hi,hlen,R,C⟩;simp only at hi hlen R C;refine Xab (λh=> ?_) (λh=> ?_);have I:i<a.length:=by have:=of_decide_eq_true h;simp only at this;omega
 have ak:=ag _ (XaI I);refine⟨a[i],XaH i,Xad I, ?_⟩;refine Xab rfl ?_;refine((ZIu A B a b out (a.length+b.length) i a[i] ah ak hlen (by omega) (by omega) R).ent ?_).mono ?_;refine ZaH rfl rfl ?_ ?_;exact⟨⟨rfl,rfl⟩,⟨rfl,rfl⟩,⟨rfl,rfl⟩,⟨rfl,rfl,rfl⟩,rfl,rfl,rfl,rfl,rfl,rfl,J.symm,(by show((b.length:Nat):Int)=_;rw[<-J]),rfl,trivial⟩;exact⟨⟨⟨rfl,rfl,trivial⟩,λ_=>rfl⟩,⟨⟨rfl,rfl,trivial⟩,λ_=>rfl⟩,⟨⟨rfl,trivial,trivial⟩,λ_=>rfl⟩,⟨rfl,λ_=>rfl⟩,trivial⟩;rintro _ _ _ ⟨rfl,c,j,X,ad,ae,U,af,aa,rfl,rfl⟩;have ho:i+b.length<j.length:=by omega
 have ab:i64.wrap ((i:Int)+(((wOf B.natAbs).length:Nat):Int))=((i+b.length:Nat):Int):=by rw[J];exact Zat (by omega) (by omega)
 have et:(i64.wrap ((i:Int)+(((wOf B.natAbs).length:Nat):Int))).toNat=i+b.length:=by rw[ab];omega
 refine Xab rfl ?_;refine Xab ⟨(by rw[ab];omega),(by rw[ab];omega)⟩ ?_;refine Exists.intro (j[i+b.length]) (Xab (by show j[0+(i64.wrap ((i:Int)+(((wOf B.natAbs).length:Nat):Int))).toNat]? =_;rw[et,Xak];exact Xad ho) ?_);have er:j.set (i+b.length) c=j.set (0+(i64.wrap ((i:Int)+(((wOf B.natAbs).length:Nat):Int))).toNat) (u32.wrap c):=by rw[et,Zbl,Xak,Int.emod_eq_of_lt ad ae]
 have wi:i64.wrap ((i:Int)+1)=((i+1:Nat):Int):=Zat (by omega) (by omega);refine⟨(i+1,j.set (i+b.length) c),⟨I, ?_, ?_, ?_⟩, ?_, ?_⟩;show(j.set _ _).length=_;simpa using U;intro y hy;rcases Xa4 hy with hy|rfl;exact af y hy;exact⟨ad,ae⟩;show wv ((j.set (i+b.length) c).take (i+1+b.length))=wv (a.take (i+1))*wv b;rw[show i+1+b.length=i+b.length+1 by omega,ZcE ho,ZeW,Xay,XaQ (XbY ho),Zcb I,Int.add_mul,<-C,Int.mul_assoc,<-aa];simp[wv];show a.length-(i+1)<a.length-i;omega;refine ZaH rfl rfl ?_ ?_;exact⟨⟨rfl,rfl⟩,⟨rfl,rfl⟩,⟨rfl,rfl⟩,⟨rfl,rfl,rfl⟩,rfl,rfl,wi.symm,trivial⟩;exact⟨⟨⟨rfl,rfl,trivial⟩,λ_=>rfl⟩,⟨⟨rfl,rfl,trivial⟩,λ_=>rfl⟩,⟨⟨rfl,trivial,trivial⟩,λ_=>rfl⟩,⟨er,λ_=>rfl⟩,trivial⟩;have he:i=a.length:=by have:=of_decide_eq_false h;simp only at this;omega
 subst he;rw[Xa3,XaA (by omega)]at C;refine Xab rfl ?_;refine Xab rfl ?_;refine Xab (by show 0+(a.length+b.length)<=out.length;omega) ?_;have hs:sub out 0 (a.length+b.length)=out:=by rw[sub,XaV,XaA (by omega)]
 refine(Ze3 (!(decide (A<0)==decide (B<0))) (sub out 0 (a.length+b.length)) (by rw[hs];exact R) (by rw[hs];omega)).mono ?_;rintro _ rfl;refine⟨rfl,rfl, ?_⟩;have:sg (!(decide (A<0)==decide (B<0))) (wv (sub out 0 (a.length+b.length)))=A*B:=by rw[hs,C,ai,aj];by_cases h0:A<0<;>by_cases h1:B<0;rw[decide_eq_true h0,decide_eq_true h1];show(A.natAbs:Int)*B.natAbs=A*B;rw[Int.ofNat_natAbs_of_nonpos (by omega),Int.ofNat_natAbs_of_nonpos (by omega),Int.neg_mul_neg];rw[decide_eq_true h0,decide_eq_false h1];show-((A.natAbs:Int)*B.natAbs)=A*B;rw[Int.ofNat_natAbs_of_nonpos (by omega),Int.natAbs_of_nonneg (by omega),Int.neg_mul,Int.neg_neg];rw[decide_eq_false h0,decide_eq_true h1];show-((A.natAbs:Int)*B.natAbs)=A*B;rw[Int.natAbs_of_nonneg (by omega),Int.ofNat_natAbs_of_nonpos (by omega),Int.mul_neg,Int.neg_neg];rw[decide_eq_false h0,decide_eq_false h1];show(A.natAbs:Int)*B.natAbs=A*B;rw[Int.natAbs_of_nonneg (by omega),Int.natAbs_of_nonneg (by omega)]
 show IS (sg (!(decide (A<0)==decide (B<0))) (wv (sub out 0 (a.length+b.length))))=IS (A*B);rw[this];refine⟨Xap _,by simp,λx hx=> ?_, ?_⟩;have:=List.eq_of_mem_replicate hx;rw[this];decide;show wv ((List.replicate (a.length+b.length) 0).take (0+b.length))=_;rw[List.take_replicate];have: ∀k,wv (List.replicate k 0)=0:=by intro k;induction k with|zero=>rfl|succ k ih=>rw[List.replicate_succ,wv,ih];rfl
 rw[this];simp[wv];refine ZaH rfl rfl ?_ ?_;exact⟨⟨rfl,rfl⟩,⟨rfl,rfl⟩,⟨rfl,rfl⟩,⟨rfl,w3,w3⟩,rfl,rfl,rfl,trivial⟩;exact⟨⟨⟨rfl,ha,trivial⟩,λ_=>rfl⟩,⟨⟨rfl,J,trivial⟩,λ_=>rfl⟩,⟨⟨rfl,trivial,trivial⟩,λ_=>rfl⟩,⟨w4,λ_=>rfl⟩,trivial⟩
def ZrA (n:Nat):IS (n:Int)= .agg [.v .b false,Zby (wOf n)]:=by show SV.agg [.v .b (decide ((n:Int)<0)),Zby (wOf (n:Int).natAbs)]=_;rw[decide_eq_false (by omega),XaY]
def ZpY (a:List Int) (j:a.length<=10000000000):PureOK prog Zaj 115 [Zby a] (λV=>V=Zby a):=by
 refine PureOK.as (Q:=λV=>V=Zby a\/(V= .nils/\a=[])) ?_ ?_;rotate_left
 rintro V (h|⟨rfl,rfl⟩);exact⟨V,AsV.refl V,h⟩;exact⟨_,AsV.nil _,rfl⟩;refine Zad Zab func115 ?_;refine Xab (λC=> ?_) ?_;refine Xab (λ_=> ?_) (λh=>nomatch h);exact .inr ⟨rfl,C⟩;refine Xab (λh=>nomatch h) (λ_=> ?_);refine Xab (by show 0+0<=0;decide) ?_;cases a with|nil=>refine Xab (by show 0+0<=0;decide) ?_;exact .inl rfl|cons x r=>refine Xab (by show(0+(r.length+1))*4<=_;simp at j;omega) ?_;refine Xab (by show 0+(0+(r.length+1))<=(x::r).length;simp) ?_;refine .inl (congrArg Zby ?_);show sub (sub [] 0 0++x::r) 0 (0+(r.length+1))=x::r;simp[sub]
def ZJA (a b:Int) (I:0<b) (h: ¬ (sg (decide (a<0)) ((a.natAbs % b.natAbs:Nat):Int)<0)):sg (decide (a<0)) ((a.natAbs/b.natAbs:Nat):Int)=a/b/\sg (decide (a<0)) ((a.natAbs % b.natAbs:Nat):Int)=a % b:=by
 obtain⟨n,rfl⟩: ∃n:Nat,b=n:=⟨b.toNat,by omega⟩;rw[XaY]at h|-;by_cases j:a<0;obtain⟨m,rfl⟩: ∃m:Nat,a= -(m:Int):=⟨(-a).toNat,by omega⟩;rw[decide_eq_true j]at h|-;rw[Int.natAbs_neg,XaY]at h|-;simp only[sg]at h|-;have C:m % n=0:=by omega
 have e:=Nat.div_add_mod m n;rw[C,Nat.add_zero]at e;rw[C];have em: -(m:Int)=(n:Int)* -((m/n:Nat):Int):=by rw[Int.mul_neg,<-Int.natCast_mul,e]
 constructor;rw[em,Int.mul_ediv_cancel_left _ (by omega)];rw[em,Int.mul_emod_right];rfl;obtain⟨m,rfl⟩: ∃m:Nat,a=m:=⟨a.toNat,by omega⟩;rw[decide_eq_false j,XaY];exact⟨rfl,rfl⟩
def ZJs (a b:Int) (C:0<b) (h:sg (decide (a<0)) ((a.natAbs % b.natAbs:Nat):Int)<0):sg (decide (a<0)) ((a.natAbs/b.natAbs:Nat):Int)-1=a/b/\sg (decide (a<0)) ((a.natAbs % b.natAbs:Nat):Int)+b=a % b:=by
 obtain⟨n,rfl⟩: ∃n:Nat,b=n:=⟨b.toNat,by omega⟩;rw[XaY]at h|-;by_cases j:a<0;obtain⟨m,rfl⟩: ∃m:Nat,a= -(m:Int):=⟨(-a).toNat,by omega⟩;rw[decide_eq_true j]at h|-;rw[Int.natAbs_neg,XaY]at h|-;simp only[sg]at h|-;have I:0<m % n:=by omega
 have J:m % n<n:=Nat.mod_lt _ (by omega);have e:=Nat.div_add_mod m n;have em: -(m:Int)=(-((m % n:Nat):Int)+n)+(n:Int)*(-((m/n:Nat):Int)-1):=by have:(m:Int)=(n:Int)*((m/n:Nat):Int)+((m % n:Nat):Int):=(by rw[<-Int.natCast_mul,<-Int.natCast_add,e]);rw[this];grind
 constructor;rw[em,Int.add_mul_ediv_left _ _ (by omega),Int.ediv_eq_zero_of_lt (by omega) (by omega)];omega;rw[em,Int.add_mul_emod_self_left,Int.emod_eq_of_lt (by omega) (by omega)];rw[decide_eq_false j]at h;simp only[sg]at h;omega
def ZvL (m:Bool) (x:Int):(sg m x).natAbs=x.natAbs:=by cases m<;>simp[sg]
def dmH (a b q r:Int):List SM:=[.cell [.v .b (decide (a<0)),Zby (wOf a.natAbs)] true, .cell [.v .b (decide (b<0)),Zby (wOf b.natAbs)] true, .cell [.v .b false, .nils] true, .cell [.v .b false, .nils] true, .cell [.v .b (decide (q<0)),Zby (wOf q.natAbs)] true, .cell [.v .b (decide (r<0)),Zby (wOf r.natAbs)] true]
def Zth (a b:Int) (hb:0<b) (aa:ln a<=700000000) (ab:ln b<=700000000):PureOK prog Zaj 100 [IS a,IS b] (λV=>V= .tup [IS (a/b),IS (a % b)]):=by
 have ad:(wOf a.natAbs).length<=700000000:=aa;have ae:(wOf b.natAbs).length<=700000000:=ab;refine Zad Zab func100 ?_;refine Xab rfl ?_;refine Xab rfl ?_;refine(Zl1 a.natAbs b.natAbs (by omega) (by omega) (by omega)).mono ?_;rintro _ ⟨C,j,rfl,q1,r1,q2,r2,q3,I⟩;refine Xab rfl ?_;refine(ZpY C (by omega)).mono ?_;rintro _ rfl;refine(Ze3 _ C q1 (by omega)).mono ?_;rintro _ rfl;refine Xab rfl ?_;refine(ZpY j (by omega)).mono ?_;rintro _ rfl;refine(Ze3 _ j r1 (by omega)).mono ?_;rintro _ rfl;obtain⟨Q,hQ⟩: ∃Q,sg (decide (a<0)) (wv C)=Q:=⟨_,rfl⟩;obtain⟨R,hR⟩: ∃R,sg (decide (a<0)) (wv j)=R:=⟨_,rfl⟩;refine Xab rfl ?_;refine Xab rfl ?_;refine Xab rfl ?_;have J:=hQ;have U:=hR;rw[q3]at J;rw[I]at U;refine Xab (λh=> ?_) (λh=> ?_);have h':sg (decide (a<0)) (wv j)<0:=of_decide_eq_true h;obtain⟨e1,e2⟩:=ZJs a b hb (by rw[I]at h';exact h');refine Znr (dmH a b (sg (decide (a<0)) (wv C)) (sg (decide (a<0)) (wv j))) rfl ?_;have lq:ln Q<=700000001:=by rw[<-J];refine XaK (ZkL (b:=a) ?_) (by omega);have:=Nat.div_le_self a.natAbs b.natAbs;rw[ZvL,XaY];omega
 have lr:ln R<=700000001:=by rw[<-U];refine XaK (ZkL (b:=a) ?_) (by omega);have:=Nat.mod_le a.natAbs b.natAbs;rw[ZvL,XaY];omega
 refine Xab rfl ?_;refine(ZBc 1 (by decide) (by decide)).mono ?_;rintro _ rfl;have l1:ln 1<=2:=Zfn (by decide);refine(ZFh (sg (decide (a<0)) (wv C)) 1 (by rw[hQ];omega) (by omega)).mono ?_;rintro _ rfl;refine Xab rfl ?_;refine Xab rfl ?_;refine(Zzu (sg (decide (a<0)) (wv j)) b (by rw[hR];omega) (by omega)).mono ?_;rintro _ rfl;refine Xab rfl ?_;refine Xab rfl ?_;refine Znr (dmH a b (sg (decide (a<0)) (wv C)-1) (sg (decide (a<0)) (wv j)+b)) rfl ?_;refine⟨rfl,rfl,rfl,rfl,rfl,rfl, ?_⟩;show SV.tup [IS (sg (decide (a<0)) (wv C)-1),IS (sg (decide (a<0)) (wv j)+b)]=_;rw[q3,I,e1,e2];have h': ¬sg (decide (a<0)) (wv j)<0:=of_decide_eq_false h;obtain⟨e1,e2⟩:=ZJA a b hb (by rw[I]at h';exact h');refine⟨rfl,rfl,rfl,rfl,rfl,rfl, ?_⟩;show SV.tup [IS (sg (decide (a<0)) (wv C)),IS (sg (decide (a<0)) (wv j))]=_;rw[q3,I,e1,e2]
def ZCa (n:Nat):PureOK prog Zaj 93 [.agg [.v .b false,Zby (wOf n)]] (λV=>V= .v (.i .i64) ((n:Int)).sign):=by rw[<-ZrA];exact Zya n
def ZJk (t:Nat×Nat):List SM:=[.cell [.v .b false,Zby (wOf t.1)] true, .cell [.v .b false,Zby (wOf t.2)] true, .cell [.v .b false, .nils] true]
def ZIb (a b:Int) (C:ln a<=700000000) (I:ln b<=700000000):PureOK prog Zaj 99 [IS a,IS b] (λV=>V=IS (Int.gcd a b:Int)):=by
 refine Zad Zab func99 ?_;refine Xab rfl ?_;refine Xab rfl ?_;refine Zap Zab rfl (λ(_:Nat×Nat)=> [(2, .ptr 0 0 0),(3, .ptr 1 0 0),(4, .ptr 2 0 0)]) ZJk
  (λt=>(wOf t.1).length<=700000000/\(wOf t.2).length<=700000000/\Nat.gcd t.1 t.2=Int.gcd a b) (λt=>t.2) ?_ (a.natAbs,b.natAbs) ⟨C,I,rfl⟩ ?_
 rintro⟨A,B⟩ ⟨h1,J,j⟩;simp only at h1 J j;refine Xab rfl ?_;refine(ZCa B).mono ?_;rintro _ rfl;refine Xab (λh=> ?_) (λh=> ?_);have hB:0<B:=by have R:(!decide ((B:Int).sign=0))=true:=h;rcases Nat.eq_zero_or_pos B with h0|h0;subst h0;simp at R;exact h0
 refine Xab rfl ?_;refine Xab rfl ?_;refine(Zl1 A B hB (by omega) (by omega)).mono ?_;rintro _ ⟨q,r,rfl,q1,r1,q2,r2,q3,r3⟩;refine Xab rfl ?_;refine(ZpY r (by omega)).mono ?_;rintro _ rfl;refine(Ze3 false r r1 (by omega)).mono ?_;rintro _ rfl;refine Xab rfl ?_;refine Xab rfl ?_;have U:sg false (wv r)=((A % B:Nat):Int):=r3;have hm:A % B<B:=Nat.mod_lt _ hB;refine⟨(B,A % B),⟨J,XaK (ZbJ (XbY hm)) J, ?_⟩,hm, ?_⟩;show Nat.gcd B (A % B)=_;rw[<-j,Nat.gcd_comm A B,Nat.gcd_rec B A,Nat.gcd_comm];have e1:false=decide (sg false (wv r)<0):=by rw[U];exact(decide_eq_false (by omega)).symm
 have e2:wOf (A % B)=wOf (sg false (wv r)).natAbs:=by rw[U,XaY]
 refine ZaH rfl rfl ?_ ?_;exact⟨⟨rfl,rfl⟩,⟨rfl,rfl⟩,⟨rfl,rfl⟩,trivial⟩;exact⟨⟨⟨rfl,rfl,trivial⟩,λ_=>rfl⟩,⟨⟨e1,e2,trivial⟩,λ_=>rfl⟩,⟨⟨rfl,trivial,trivial⟩,λ_=>rfl⟩,trivial⟩;have hB:B=0:=by have R:(!decide ((B:Int).sign=0))=false:=h;simpa using R
 subst hB;refine⟨rfl,rfl,rfl, ?_⟩;rw[Nat.gcd_zero_right]at j;show SV.agg [.v .b false,Zby (wOf A)]=_;rw[<-j,ZrA];refine ZaH rfl rfl ?_ ?_;exact⟨⟨rfl,rfl⟩,⟨rfl,rfl⟩,⟨rfl,rfl⟩,trivial⟩;exact⟨⟨⟨rfl,rfl,trivial⟩,λ_=>rfl⟩,⟨⟨rfl,rfl,trivial⟩,λ_=>rfl⟩,⟨⟨rfl,trivial,trivial⟩,λ_=>rfl⟩,trivial⟩
def Zq9 (s p:List UInt8):Bool:=decide ((p.length:Int)<=(s.length:Int))&&(s.take p.length==p)
def ZiV (s p:List UInt8):PureOK prog Zaj 109 [.v .s s, .v .s p] (λV=>V= .v .b (Zq9 s p)):=by
 refine Zad Zab func109 ?_;refine Zbi (Zbx rfl ?_);refine ZfJ ?_;refine Zeo ?_;refine Zbi (Zbx rfl ?_);iterate 6 refine ZfJ ?_
 cases j:decide ((p.length:Int)<=(s.length:Int))with|true=>have hle:(p.length:Int)<=(s.length:Int):=of_decide_eq_true j;(iterate 3 refine Zfu rfl ?_);refine ZcD rfl rfl rfl rfl (λ_=>rfl) ⟨XaH _,hle⟩ rfl rfl ?_;(iterate 2 refine Zfu rfl ?_);refine Zxq rfl ?_;refine ZfJ ?_;refine Zeo ?_;show SV.v .b (List.drop 0 (s.take ((p.length:Int).toNat))==p)= .v .b (Zq9 s p);rw[Zq9,j,XaV,Xac,Bool.true_and]|false=>(iterate 6 refine ZHb rfl ?_);refine ZxA rfl ?_;refine ZfJ ?_;refine Zeo ?_;show SV.v .b false= .v .b (Zq9 s p);rw[Zq9,j,XbZ]
def ZqF (s p:List UInt8):PureOK prog Zaj 89 [.v .s s, .v .s p] (λV=>V= .v .b (Zq9 s p)):=by refine Zad Zab func89 ?_;refine(ZiV s p).mono ?_;rintro _ rfl;rfl
def ZnD (s p:List UInt8):PureOK prog Zaj 110 [.v .s s, .v .s p] (λV=>V= .v .s (match Zq9 s p with|true=>s.drop p.length|false=>s)):=by
 refine Zad Zab func110 ?_;refine(ZiV s p).mono ?_;rintro _ rfl;refine Xab (λh=> ?_) (λh=> ?_);have hle:(p.length:Int)<=(s.length:Int):=by have j:=h;simp only[Zq9,Xah,decide_eq_true_eq]at j;exact j.1
 refine Xab ⟨XaH _,hle⟩ ?_;have e:(s.take s.length).drop ((p.length:Int).toNat)=s.drop p.length:=by rw[Xa3,Xac]
 rw[h];exact congrArg (SV.v .s) e;rw[h];rfl
def ZpN (s p:List UInt8):PureOK prog Zaj 90 [.v .s s, .v .s p] (λV=>V= .v .s (match Zq9 s p with|true=>s.drop p.length|false=>s)):=by refine Zad Zab func90 ?_;refine(ZnD s p).mono ?_;rintro _ rfl;rfl
def ZEl {s:List UInt8} (h:Dg s):ZIi s=true:=by refine Xaw.2 λc j=> ?_;obtain⟨C,I⟩:=h c j;rw[Xah];exact⟨Xb1 C,Xb1 I⟩
def ZpW (x:List UInt8) (hd:Dg x) (C:1<=x.length) (I:x.length<=9):PureOK prog Zaj 91 [.v .s x, .v (.i .i64) 10, .v (.i .i64) 32] (λV=>V= .tup [.v (.i .u64) (dec x:Nat), .nili]):=by
 refine⟨λqs j=> ?_⟩;simp only[RL,RV,RR,Xb3,and_true]at j;obtain⟨_,_,rfl,rfl,_,_,rfl,rfl,_,_,rfl,rfl,rfl⟩:=j;refine⟨.tup [.int .u64 (dec x:Nat), .nili],_, ?_, ?_,rfl⟩;show(parseG [.str ⟨x.toArray⟩, .int .i64 10, .int .i64 32]).bind (λv=>exp ZaP [] v)=_;have J:=ZEl hd;have R:Nat.ble 1 x.length=true:=Xb1 C;have U:Nat.ble x.length 9=true:=Xb1 I;have e:parseG [.str ⟨x.toArray⟩, .int .i64 10, .int .i64 32]=some (.tup [.int .u64 (dec x:Nat), .nili]):=by simp only[parseG,J,R,U,decide_true,Bool.and_self]
 rw[e];rfl;simp only[RV,RL,RR];exact⟨_,rfl,_,_,rfl,rfl,_,_,rfl,rfl,rfl⟩
def Zj9: ∀ {a:List Int} {es:List (List PV)},Wd a->All2 (RR (.i .u32)) a es->ZfO es=some a
 | [],[],_,_=>rfl
 |x::a,c::es,hw,h=>by obtain⟨j,I⟩:=h;simp only[RR]at j;subst j;have C:=hw x Xai;have:(decide (0<=x)&&decide (x<4294967296))=true:=(by rw[decide_eq_true C.1,decide_eq_true C.2];rfl);simp only[ZfO,this,Zj9 (λy J=>hw y (Xaj _ J)) I,Xal]
def Zxv (v:Int):PureOK prog Zaj 107 [IS v] (λV=>V= .tup [.v .s (ZeH (decide (v<0)) (wOf v.natAbs)), .v .b (Zez (wOf v.natAbs))]):=by refine⟨λqs j=> ?_⟩;obtain⟨a,I⟩: ∃a,wOf v.natAbs=a:=⟨_,rfl⟩;have hw:Wd a:=I▸Zd3 _;change RL [] [.agg [.v .b (decide (v<0)),Zby (wOf v.natAbs)]] qs at j;rw[I]at j|-;simp only[RL,RV,RR,Xb3,and_true]at j;obtain⟨_,_,rfl,⟨_,rfl,_,_,rfl,rfl,_,_,rfl,J,rfl⟩,rfl⟩:=j;refine⟨.tup [.str ⟨(ZeH (decide (v<0)) a).toArray⟩, .bool (Zez a)],_, ?_, ?_,rfl⟩;show(textG _).bind (λv=>exp ZaP [] v)=_;rcases J with⟨rfl,rfl⟩|⟨es,rfl,C⟩;rfl;simp only[textG,Zj9 hw C,Xal];rfl;simp only[RV,RL,RR];exact⟨_,rfl,_,_,rfl,rfl,_,_,rfl,rfl,rfl⟩
open Go.Lib
abbrev QS (n d:Int):SV:= .agg [.v .b (decide (n<0)),Zby (wOf n.natAbs), .v .b (decide (d<0)),Zby (wOf d.natAbs)]
def Zky (n:Int) (j: -9223372036854775808<=n) (C:n<9223372036854775808):PureOK prog Zaj 49 [.v (.i .i64) n] (λV=>V=QS n 1):=by refine Zad Zab func49 ?_;refine(ZBc n j C).mono ?_;rintro _ rfl;refine(ZBc 1 (by decide) (by decide)).mono ?_;rintro _ rfl;refine Xab rfl ?_;first|rfl|exact⟨rfl,rfl⟩|exact⟨rfl,rfl,rfl⟩|exact⟨rfl,rfl,rfl,rfl⟩
def ZHa (n d:Int) (j:ln n<=1000000000):PureOK prog Zaj 74 [QS n d] (λV=>V=QS (-n) d):=by refine Zad Zab func74 ?_;refine Xab rfl ?_;refine(Zy3 n j).mono ?_;rintro _ rfl;refine Xab rfl ?_;refine Xab rfl ?_;first|rfl|exact⟨rfl,rfl⟩|exact⟨rfl,rfl,rfl⟩|exact⟨rfl,rfl,rfl,rfl⟩
end Go.Proofs.YtplkkbcnilnfaaaGreatDoor
namespace Dv
open Go Go.Am Go.Lib
def ZDE (n:Nat):Zez (wOf n)=Nat.ble (decDigits n).length 2000/\(Nat.ble (decDigits n).length 2000=true-> ∀m,ZeH m (wOf n)=(match decide (n=0),m with|false,true=> [45]|_,_=> [])++decDigits n):=by
 by_cases U:n=0;subst U;rw[Zeb,decDigits_one (by decide)];refine⟨rfl,λ_ m=> ?_⟩;cases m<;>rfl;have I:(wOf n).isEmpty=false:=by rw[List.isEmpty_eq_false_iff,ne_eq,Zf0];exact U
 have aa:decide (n=0)=false:=decide_eq_false U;by_cases R:(wOf n).length<=210;have J:Nat.ble (wOf n).length 210=true:=Xb1 R;have ab:n<10^2100:=Nat.lt_trans (ZcY.1 R) (by decide+kernel);have hv:(wv (wOf n)).toNat=n:=by rw[ZcG];omega
 have C:Zy9 2100 n=decDigits n:=Zq1 2100 n (by decide) ab;refine⟨by simp only[Zez,I,J,hv,C],λ_ m=> ?_⟩;simp only[ZeH,I,J,hv,C,aa];cases m<;>rfl;have J:Nat.ble (wOf n).length 210=false:=by cases J:Nat.ble (wOf n).length 210 with|false=>rfl|true=>exact absurd (Xao J) R
 have ad:10^2000<=n:=by rcases Xa5 n (10^2000)with h|h;exact absurd (ZcY.2 (Nat.lt_trans h (by decide+kernel))) R;exact h
 have j:Nat.ble (decDigits n).length 2000=false:=by cases j:Nat.ble (decDigits n).length 2000 with|false=>rfl|true=>have:=(Zgl (by decide)).1 (Xao j);omega
 exact⟨by simp only[Zez,I,J,j],λh=>by rw[j]at h;cases h⟩
def ZkG: ∀ {s:List UInt8},Dg s-> ∀i,Zi0 s 47 i= -1
 | [],_,_=>rfl
 |b::l,h,i=>by have j:=(h b Xai).1;have hf:Nat.beq b.toNat (47:UInt8).toNat=false:=(by cases C:Nat.beq b.toNat (47:UInt8).toNat with|false=>rfl|true=>rw[Xar C]at j;exact absurd j (by decide));rw[Zi0,hf];exact ZkG (λc I=>h c (Xaj _ I)) _
def Znj: ∀ {s:List UInt8},Dg s-> ∀ (t:List UInt8) (i:Nat),Zi0 (s++47::t) 47 i=((i+s.length:Nat):Int)
 | [],_,t,i=>by rw[Xbl,Zi0];rfl
 |b::l,h,t,i=>by have j:=(h b Xai).1;have hf:Nat.beq b.toNat (47:UInt8).toNat=false:=(by cases C:Nat.beq b.toNat (47:UInt8).toNat with|false=>rfl|true=>rw[Xar C]at j;exact absurd j (by decide));rw[Xbs,Zi0,hf];simp only;rw[Znj (λc I=>h c (Xaj _ I)) t (i+1),Xaq];congr 1;omega
def Zpk {s:List UInt8} (h:Zi0 s 47 0= -1):Zte s 47=(s,[],false):=by rw[Zte,h];rfl
def Zxn {s:List UInt8} {k:Nat} (h:Zi0 s 47 0=(k:Int)):Zte s 47=(s.take k,s.drop (k+1),true):=by rw[Zte,h,decide_eq_true (XaH k),Xac]
def mns (m:Bool) (s:List UInt8):List UInt8:=match m with
 |true=>45::s
 |false=>s
def Zgy (d:Nat):List UInt8:=match decide (d=1)with
 |true=> []
 |false=>47::decDigits d
def Zhf (q:Rat):List UInt8:=mns (decide (q.num<0)) (decDigits q.num.natAbs++Zgy q.den)
def ZoL (q:Rat):Bool:=Nat.ble (decDigits q.num.natAbs).length 2000&&Nat.ble (decDigits q.den).length 2000
def ZA0 (n d:Nat):Zte (decDigits n++Zgy d) 47=match decide (d=1)with
 |true=>(decDigits n,[],false)
 |false=>(decDigits n,decDigits d,true):=by unfold Zgy;cases decide (d=1)with|true=>simp only[XaN];exact Zpk (ZkG (ZcI n) 0)|false=>simp only;have h:=Znj (ZcI n) (decDigits d) 0;rw[Xak]at h;rw[Zxn h,List.take_left',List.drop_append];simp;rfl
def Zmr {q:Rat}:ZoL q=true<->(decDigits q.num.natAbs).length<=2000/\(decDigits q.den).length<=2000:=by rw[ZoL,Xah,Nat.ble_eq,Nat.ble_eq]
def ZFe {s:List UInt8} (j:Cn s):dec s=1<->s=[49]:=by constructor;intro h;have:=j.eq;rw[h,decDigits_one (by decide)]at this;exact this.symm;rintro rfl;rfl
def ZB6 {q:Rat} (h:ZoL q=true):(Zhf q).length<=4002:=by
 obtain⟨j,C⟩:=Zmr.1 h;have hf:(Zgy q.den).length<=2001:=by unfold Zgy;cases decide (q.den=1)with|true=>simp|false=>simp only[Xaq];omega
 have hm: ∀ (m:Bool) (s:List UInt8),(mns m s).length<=s.length+1:=λm s=>by cases m<;>simp[mns]
 have:=hm (decide (q.num<0)) (decDigits q.num.natAbs++Zgy q.den);rw[Xas]at this;rw[Zhf];omega
def ZDQ (m:Bool) (n d:Nat):Zte (mns m (decDigits n++Zgy d)) 47=match decide (d=1)with
 |true=>(mns m (decDigits n),[],false)
 |false=>(mns m (decDigits n),decDigits d,true):=by cases m with|false=>exact ZA0 n d|true=>have e:Zi0 (mns true (decDigits n++Zgy d)) 47 0=Zi0 (decDigits n++Zgy d) 47 1:=rfl;cases hd:decide (d=1)with|true=>have hf:Zgy d=[]:=(by rw[Zgy,hd]);rw[hf,XaN]at e|-;rw[ZkG (ZcI n)]at e;exact Zpk e|false=>have hf:Zgy d=47::decDigits d:=(by rw[Zgy,hd]);rw[hf]at e|-;rw[Znj (ZcI n)]at e;rw[Zxn e,mns,Nat.add_comm,List.take_succ_cons,List.take_left',List.drop_succ_cons,List.drop_append];simp[mns];rfl
def ZtG: ∀ (k n:Nat),(Zy9 k n).length<=k
 |0,_=>Xag 0
 |k+1,n=>by rw[Zy9];cases Nat.ble 10 n with|true=>have:=ZtG k (n/10);simp only[Xas,List.length_singleton];omega|false=>simp
def ZpI (m:Bool) (l:List Int):(ZeH m l).length<=2101:=by unfold ZeH;cases l.isEmpty with|true=>simp|false=>simp only;cases Nat.ble l.length 210 with|true=>have:=ZtG 2100 (wv l).toNat;cases m<;>simp only[Xas,Xaq,XbG]<;>omega|false=>simp
def Zsb (v:Int):Zez (wOf v.natAbs)=Nat.ble (decDigits v.natAbs).length 2000/\(Nat.ble (decDigits v.natAbs).length 2000=true->ZeH (decide (v<0)) (wOf v.natAbs)=mns (decide (v<0)) (decDigits v.natAbs)):=by obtain⟨j,C⟩:=ZDE v.natAbs;refine⟨j,λI=> ?_⟩;rw[C I];by_cases h:v<0;rw[decide_eq_true h,decide_eq_false (by omega: ¬v.natAbs=0)];rfl;rw[decide_eq_false h];cases decide (v.natAbs=0)<;>rfl
end Dv
namespace Go.Proofs.YtplkkbcnilnfaaaGreatDoor
open Go.Am Go.Tx Dv Go.Lib
abbrev QR (q:Rat):SV:=QS q.num (q.den:Int)
def Zsd {n:Nat} (h:((wOf n).length:Int)=1) {x:Int} (C:(wOf n)[(0:Int).toNat]? =some x) (I:x=1):n=1:=by have j:=ZcG n;obtain⟨w,hw⟩: ∃w,wOf n=w:=⟨_,rfl⟩;rw[hw]at h C j;match w,h,C,j with| [y],_,C,j=>have J:y=x:=(by simpa using C);rw[J,I]at j;simp only[wv]at j;omega| [],h,_,_=>simp at h|_::_::_,h,_,_=>simp only[Xaq]at h;omega
def Zh3 {n d:Int} (hd:0<d):(Rat.divInt n d).num=n/(Int.gcd n d:Int)/\((Rat.divInt n d).den:Int)=d/(Int.gcd n d:Int):=by rw[Rat.num_divInt,Rat.den_divInt,Int.sign_eq_one_of_pos hd,if_neg (by omega),Int.one_mul,Int.gcd_comm d n,Int.natCast_ediv,Int.natAbs_of_nonneg (by omega)];exact⟨rfl,rfl⟩
def ZuH (n:Int) {d:Int} (h:d.natAbs=1) (hd:0<d):QR (Rat.divInt n d)=QS n d:=by
 have:d=1:=by omega
 subst this;obtain⟨j,C⟩:=Zh3 (n:=n) (d:=1) (by decide);rw[Int.gcd_one,Int.natCast_one,Int.ediv_one]at j C;show QS _ _=_;rw[j,C]
def Zux (n:Int) {d:Int} (h:(Int.gcd n d:Int).natAbs=1) (hd:0<d):QR (Rat.divInt n d)=QS n d:=by
 obtain⟨j,C⟩:=Zh3 (n:=n) hd;have I:(Int.gcd n d:Int)=1:=by omega
 rw[I,Int.ediv_one]at j C;show QS _ _=_;rw[j,C]
def Zvv {n g:Int} (I:0<g) (j:g∣n):(match decide (n<0)with|true=>decide ((0:Int)<((wOf ((n.natAbs:Int)/g).natAbs).length:Int))|false=>false)=decide (n/g<0)/\((n.natAbs:Int)/g).natAbs=(n/g).natAbs:=by
 obtain⟨k,rfl⟩:=j;rw[Int.mul_ediv_cancel_left _ (by omega),Xb0,Int.natCast_mul,Int.natAbs_of_nonneg (by omega),Int.mul_ediv_cancel_left _ (by omega),XaY];refine⟨?_,rfl⟩;by_cases C:k<0;rw[decide_eq_true (Int.mul_neg_of_pos_of_neg I C),decide_eq_true C];refine decide_eq_true ?_;have:wOf k.natAbs≠ []:=by rw[ne_eq,Zf0];omega
 have:=List.length_pos_iff.2 this;omega;rw[decide_eq_false (by have:=XbL (a:=g) (b:=k) (by omega) (by omega);omega),decide_eq_false C]
def ZI2 (m:Bool) (n d:Int) (z:List SV):List SM:=[.cell [.v .b m,Zby (wOf n.natAbs)] true, .cell [.v .b (decide (d<0)),Zby (wOf d.natAbs)] true, .cell z true]
def ZHK (m:Bool) (n d g:Int) (z:List SV):List SM:=[.cell [.v .b m,Zby (wOf n.natAbs)] true, .cell [.v .b (decide (d<0)),Zby (wOf d.natAbs)] true, .cell z true, .cell [.v .b (decide (g<0)),Zby (wOf g.natAbs)] true]
def ZEG:List SV:=[.v .b false, .nils, .v .b false, .nils]
def ZmH (n d:Int) (ak:d≠0) (ad:ln n<=700000000) (ae:ln d<=700000000):PureOK prog Zaj 81 [IS n,IS d] (λV=>V=QR (Rat.divInt n d)):=by
 refine Zad Zab func81 ?_;refine Xab rfl ?_;refine Xab (λh=> ?_) (λh=> ?_);have aj:d<0:=of_decide_eq_true h;obtain⟨n',I⟩: ∃n',-n=n':=⟨_,rfl⟩;obtain⟨j,J⟩: ∃j,-d=j:=⟨_,rfl⟩;have hN:=Zy3 n (by omega);have hD:=Zy3 d (by omega);rw[I]at hN;rw[J]at hD;have hq:Rat.divInt n d=Rat.divInt n' j:=by rw[<-I,<-J,Rat.neg_divInt_neg]
 have hd:0<j:=by omega
 have U:ln n'<=700000000:=by rw[<-I,ZsH];exact ad
 have R:ln j<=700000000:=by rw[<-J,ZsH];exact ae
 refine Xab rfl ?_;refine hN.mono ?_;rintro _ rfl;refine Xab rfl ?_;refine hD.mono ?_;rintro _ rfl;refine Xab rfl ?_;refine Xab rfl ?_;refine Znr (ZI2 (decide (n'<0)) n' j ZEG) rfl ?_;rotate_left 1
 obtain⟨n',I⟩: ∃n',n'=n:=⟨_,rfl⟩;obtain⟨j,J⟩: ∃j,j=d:=⟨_,rfl⟩;have hq:Rat.divInt n d=Rat.divInt n' j:=by rw[I,J]
 have hd:0<j:=by have:=of_decide_eq_false h;omega
 have U:ln n'<=700000000:=by rw[I];exact ad
 have R:ln j<=700000000:=by rw[J];exact ae
 subst I J;refine Znr (ZI2 (decide (n'<0)) n' j ZEG) rfl ?_
 all_goals
  rw[hq]
  have hG:=ZIb n' j U R
  obtain⟨g,hg⟩: ∃g:Int,(Int.gcd n' j:Int)=g:=⟨_,rfl⟩
  have ab:0<g:=by
   have:0<Int.gcd n' j:=Int.gcd_pos_of_ne_zero_right _ (by omega);omega
  have af:ln g<=700000000:=by
   refine XaK (ZkL (b:=j) ?_) R;have:Int.gcd n' j∣j.natAbs:=Int.gcd_dvd_natAbs_right _ _;have:=Nat.le_of_dvd (by omega) this;omega
  have ag:g∣n':=by rw[<-hg];exact Int.gcd_dvd_left _ _
  obtain⟨q1,q2⟩:=Zh3 (n:=n') hd
  have aa:=Zux n' (d:=j)
  rw[hg]at hG q1 q2 aa
  have hA:=Zth (n'.natAbs:Int) g ab (by rw[ln,XaY];exact U) af
  rw[ZrA]at hA
  have hB:=Zth j g ab R af
  obtain⟨s1,s2⟩:=Zvv (n:=n') ab ag
  obtain⟨A,eA⟩: ∃A,(n'.natAbs:Int)/g=A:=⟨_,rfl⟩
  obtain⟨Ar,ah⟩: ∃A,(n'.natAbs:Int) % g=A:=⟨_,rfl⟩
  obtain⟨B,eB⟩: ∃A,j/g=A:=⟨_,rfl⟩
  obtain⟨Br,ai⟩: ∃A,j % g=A:=⟨_,rfl⟩
  rw[eA,ah]at hA
  rw[eB,ai]at hB
  rw[eA]at s1 s2
  rw[eB]at q2
  first|refine Zbi (Zbx rfl ?_)|refine Zbi (Zbi (Zbx rfl ?_))
  refine ZfJ ?_
  refine Zgx rfl (λ_=>rfl) rfl rfl rfl ?_
  iterate 3 refine ZfJ ?_
  refine @Classical.byCases (decide (((wOf j.natAbs).length:Int)=1)=true) _ (λC=> ?_) (λC=> ?_)
  obtain⟨y,hy⟩: ∃y,(wOf j.natAbs)[(0:Int).toNat]? =some y:=⟨_,Xad (by have:=of_decide_eq_true C;show 0<_;omega)⟩
  refine Zfu C ?_
  refine ZcD rfl rfl rfl C (λ_=>rfl) rfl rfl rfl ?_
  refine ZwJ rfl rfl rfl C (λ_=>rfl) (Xbw 0) hy rfl rfl ?_
  iterate 2 refine Zfu C ?_
  refine Zxq C ?_
  refine Zeo ?_
  refine Xab (λh=> ?_) (λ_=> ?_)
  ·have e:=ZuH n' (Zsd (of_decide_eq_true C) hy (of_decide_eq_true h)) hd
   refine Xab rfl ?_
   refine Xab rfl ?_
   refine Xab rfl ?_
   refine Xab rfl ?_
   rw[e]
   rfl
  rotate_left 1
  have C:decide (((wOf j.natAbs).length:Int)=1)=false:=by simpa using C
  iterate 5 refine ZHb C ?_
  refine ZxA C ?_
  refine Zeo ?_
  refine brF rfl ?_
  all_goals
   clear C
   refine Xab rfl ?_
   refine Xab rfl ?_
   refine hG.mono ?_
   rintro _ rfl
   refine Xab rfl ?_
   refine Znr (ZHK (decide (n'<0)) n' j g ZEG) rfl ?_
   first|refine Zbi (Zbx rfl ?_)|refine Zbi (Zbi (Zbx rfl ?_))
   refine ZfJ ?_
   refine Zgx rfl (λ_=>rfl) rfl rfl rfl ?_
   iterate 3 refine ZfJ ?_
   refine @Classical.byCases (decide (((wOf g.natAbs).length:Int)=1)=true) _ (λC=> ?_) (λC=> ?_)
   obtain⟨y,hy⟩: ∃y,(wOf g.natAbs)[(0:Int).toNat]? =some y:=⟨_,Xad (by have:=of_decide_eq_true C;show 0<_;omega)⟩
   refine Zfu C ?_
   refine ZcD rfl rfl rfl C (λ_=>rfl) rfl rfl rfl ?_
   refine ZwJ rfl rfl rfl C (λ_=>rfl) (Xbw 0) hy rfl rfl ?_
   iterate 2 refine Zfu C ?_
   refine Zxq C ?_
   refine Zeo ?_
   refine Xab (λh=> ?_) (λ_=> ?_)
   ·have e:=aa (Zsd (of_decide_eq_true C) hy (of_decide_eq_true h)) hd
    refine Xab rfl ?_
    refine Xab rfl ?_
    refine Xab rfl ?_
    refine Xab rfl ?_
    rw[e]
    rfl
   rotate_left 1
   have C:decide (((wOf g.natAbs).length:Int)=1)=false:=by simpa using C
   iterate 5 refine ZHb C ?_
   refine ZxA C ?_
   refine Zeo ?_
   refine brF rfl ?_
   all_goals
    clear C
    refine Xab rfl ?_
    refine Xab rfl ?_
    refine Znr (ZHK false n' j g ZEG) rfl ?_
    refine Xab rfl ?_
    refine Xab rfl ?_
    refine hA.mono ?_
    rintro _ rfl
    refine Xab rfl ?_
    refine Znr (ZHK (decide (A<0)) A j g ZEG) rfl ?_
    refine Xab rfl ?_
    refine Xab rfl ?_
    refine hB.mono ?_
    rintro _ rfl
    refine Xab rfl ?_
    refine Znr (ZHK (decide (A<0)) A B g ZEG) rfl ?_
    first|refine Zbi (Zbx rfl ?_)|refine Zbi (Zbi (Zbx rfl ?_))
    iterate 2 refine ZfJ ?_
    obtain⟨m,hm⟩: ∃m,decide (n'<0)=m:=⟨_,rfl⟩
    rw[hm]at s1
    cases m with
    |true=>
     refine Zfu hm ?_
     refine ZcD rfl rfl rfl hm (λ_=>rfl) rfl rfl rfl ?_
     iterate 2 refine Zfu hm ?_
     refine Zxq hm ?_
     refine ZfJ ?_
     refine Zac rfl (Xab rfl ?_)
     refine Xab rfl ?_
     refine Xab rfl ?_
     refine Xab rfl ?_
     refine Xab rfl ?_
     show SV.agg [.v .b (decide ((0:Int)<((wOf A.natAbs).length:Int))),Zby (wOf A.natAbs), .v .b (decide (B<0)),Zby (wOf B.natAbs)]=QS _ _
     simp only at s1
     rw[s2]at s1
     rw[q1,q2,s2,s1]
    |false=>
     iterate 4 refine ZHb hm ?_
     refine ZxA hm ?_
     refine ZfJ ?_
     refine Zac rfl (Xab rfl ?_)
     refine Xab rfl ?_
     refine Xab rfl ?_
     refine Xab rfl ?_
     refine Xab rfl ?_
     show SV.agg [.v .b false,Zby (wOf A.natAbs), .v .b (decide (B<0)),Zby (wOf B.natAbs)]=QS _ _
     simp only at s1
     rw[q1,q2,s2]
     show SV.agg [.v .b false,Zby (wOf (n'/g).natAbs), .v .b (decide (B<0)),Zby (wOf B.natAbs)]=SV.agg [.v .b (decide (n'/g<0)),Zby (wOf (n'/g).natAbs), .v .b (decide (B<0)),Zby (wOf B.natAbs)]
     rw[<-s1]
end Go.Proofs.YtplkkbcnilnfaaaGreatDoor
