/- Integers of any size: Mul. -/
import Derived.Test.YtapbiodcncnnfaaGreatDoorT4
set_option linter.all false
set_option maxHeartbeats 16000000
set_option maxRecDepth 100000
namespace Go.Proofs.YtapbiodcncnnfaaGreatDoor
open Go.Am Go.Tx Dv
theorem Zuk {a out ZbY:List Int} {i k:Nat} {c x y v J:Int} (j:i+k<out.length) (R:out.drop (i+k)=ZbY.drop (i+k)) (U:v=c+out[i+k]+x*y)
 (h:wv (out.take (i+k))+4294967296^(i+k)*c=wv (ZbY.take (i+k))+4294967296^i*(x*J)):
 wv ((out.set (i+k) (v % 4294967296)).take (i+k+1))+4294967296^(i+k+1)*(v/4294967296)=wv (ZbY.take (i+k+1))+4294967296^i*(x*(J+4294967296^k*y)):=by
 have hl:out.length=ZbY.length∨True:= .inr trivial
 have C:ZbY[i+k]? =some out[i+k]:=by
  have:(out.drop (i+k))[0]? =(ZbY.drop (i+k))[0]? :=by rw[R]
  rw[Xbv,Xbv,Nat.add_zero,Xac j]at this
  exact this.symm
 obtain⟨I,C⟩:=Xae.1 C
 rw[Zcl j,ZdZ,ZbL I,C,Xas,XaL (Nat.le_of_lt j),Xba]
 have e:v % 4294967296+4294967296*(v/4294967296)=v:=XaS v 4294967296
 have e1:wv [v % 4294967296]=v % 4294967296:=by simp[wv]
 have e2:(4294967296:Int)^(i+k)*(v % 4294967296)+4294967296^(i+k)*4294967296*(v/4294967296)=4294967296^(i+k)*v:=by
  rw[Xbx,←XbI,e]
 have e3:(4294967296:Int)^(i+k)=4294967296^i*4294967296^k:=Int.pow_add ..
 rw[e1,Int.add_assoc,e2,U]
 generalize(4294967296:Int)^i=p at*
 generalize(4294967296:Int)^k=q at*
 rw[e3]at h⊢
 grind
def ZvL (A B:SV) (out:List Int):List SM:=[.cell (Zbf A) true, .cell (Zbf B) true, .cell [.v .b false, .nils] true, .row (.i .u32) out true]
def ZAS (a b:List Int) (n i:Nat) (x:Int) (s:Nat×Int×List Int):TM:=
 [(2, .ptr 0 0 0),(3, .ptr 1 0 0),(4, .ptr 2 0 0),(5, .ref 3 0 n none),(6, .v (.i .i64) (i:Int)),(7, .v (.i .u32) x),(8, .v (.i .u64) s.2.1),(20,Zby a),(21, .v (.i .i64) (a.length:Int)),(22, .v (.i .i64) (i:Int)),(28,Zby b),(29, .v (.i .i64) (b.length:Int)),(30, .v (.i .i64) (s.1:Int))]
theorem ZAN (A B:Int) (a b ZbY:List Int) (n i:Nat) (x:Int) (hb:Wd b) (hx:0≤x∧x<4294967296) (hn:ZbY.length=n) (hi:i+b.length≤n) (af:n≤2000000) (ab:Wd ZbY):
 LoopOK Tryz.prog Zao 0 ⟨54,0,77⟩ (Za4 Tryz.f54 7) (ZAS a b n i x (0,0,ZbY)) (ZvL (IS A) (IS B) ZbY)
 (fun e tm hp=>e= .exit 2∧ ∃c out X,0≤c∧c<4294967296∧out.length=n∧Wd out∧wv (out.take (i+b.length))+4294967296^(i+b.length)*c=wv (ZbY.take (i+b.length))+4294967296^i*(x*wv b)∧tm=(31,X)::ZAS a b n i x (b.length,c,out)∧hp=ZvL (IS A) (IS B) out):=by
 refine Zaw Zag rfl (ZAS a b n i x) (fun s=>ZvL (IS A) (IS B) s.2.2)
  (fun s=>s.1≤b.length∧0≤s.2.1∧s.2.1<4294967296∧s.2.2.length=n∧Wd s.2.2∧s.2.2.drop (i+s.1)=ZbY.drop (i+s.1)∧wv (s.2.2.take (i+s.1))+4294967296^(i+s.1)*s.2.1=wv (ZbY.take (i+s.1))+4294967296^i*(x*wv (b.take s.1))) (fun s=>b.length-s.1) ?_ (0,0,ZbY) ?_ ZaJ
 ·rintro⟨k,c,out⟩ ⟨hk,R,U,hlen,C,hd,j⟩
  simp only at hk R U hlen C hd j
  refine Xaa (fun h=> ?_) (fun h=> ?_)
  ·have I:k<b.length:=by have:=of_decide_eq_true h;simp only at this;omega
   have aa:=hb _ (Xax I)
   have ho:i+k<out.length:=by omega
   have ag:=C _ (Xax ho)
   have J:IntKind.i64.wrap ((i:Int)+(k:Int))=((i+k:Nat):Int):=Zan (by omega) (by omega)
   have et:(IntKind.i64.wrap ((i:Int)+(k:Int))).toNat=i+k:=by rw[J];omega
   have e0:(0:Int)≤IntKind.i64.wrap ((i:Int)+(k:Int)):=by rw[J];omega
   have e1:IntKind.i64.wrap ((i:Int)+(k:Int))<(n:Int):=by rw[J];omega
   have ad:0≤x*b[k]:=Xbw hx.1 aa.1
   have ae:x*b[k]≤4294967295*4294967295:=Int.mul_le_mul (by omega) (by omega) aa.1 (by omega)
   have ev:IntKind.u64.wrap (c+IntKind.u64.wrap (IntKind.u64.wrap out[i+k]+IntKind.u64.wrap (IntKind.u64.wrap x*IntKind.u64.wrap b[k])))=c+out[i+k]+x*b[k]:=by
    rw[Zax (x:=out[i+k]) (by omega) (by omega),Zax (x:=x) (by omega) (by omega),Zax (x:=b[k]) (by omega) (by omega),Zax (x:=x*b[k]) (by omega) (by omega),Zax (x:=out[i+k]+x*b[k]) (by omega) (by omega),Zax (by omega) (by omega)]
    omega
   refine⟨b[k],Xaj k,Xac I, ?_⟩
   refine Xaa ⟨e0,e1⟩ ?_
   refine Exists.intro (out[i+k]) (Xaa (by show out[0+(IntKind.i64.wrap ((i:Int)+(k:Int))).toNat]? =_;rw[et,Xaq];exact Xac ho) ?_)
   refine Xaa ⟨e0,e1⟩ ?_
   refine Exists.intro (out[i+k]) (Xaa (by show out[0+(IntKind.i64.wrap ((i:Int)+(k:Int))).toNat]? =_;rw[et,Xaq];exact Xac ho) ?_)
   refine Xaa (by decide) ?_
   obtain⟨v,hv⟩: ∃v,v=c+out[i+k]+x*b[k]:=⟨_,rfl⟩
   rw[←hv]at ev
   have ec:v/4294967296=(IntKind.u64.wrap (c+IntKind.u64.wrap (IntKind.u64.wrap out[i+k]+IntKind.u64.wrap (IntKind.u64.wrap x*IntKind.u64.wrap b[k])))).fdiv (2^min (Int.toNat 32) IntKind.u64.bits):=by rw[ev,Zn8]
   have er:out.set (i+k) (v % 4294967296)=out.set (0+(IntKind.i64.wrap ((i:Int)+(k:Int))).toNat) (IntKind.u32.wrap (IntKind.u64.wrap (c+IntKind.u64.wrap (IntKind.u64.wrap out[i+k]+IntKind.u64.wrap (IntKind.u64.wrap x*IntKind.u64.wrap b[k]))))):=by rw[ev,et,Za8,Xaq]
   have wi:IntKind.i64.wrap ((k:Int)+1)=((k+1:Nat):Int):=Zan (by omega) (by omega)
   refine⟨(k+1,v/4294967296,out.set (i+k) (v % 4294967296)),⟨I, ?_, ?_, ?_, ?_, ?_, ?_⟩, ?_, ?_⟩
   ·show 0≤v/4294967296;omega
   ·show v/4294967296<4294967296;omega
   ·show(out.set _ _).length=_;simpa using hlen
   ·intro y hy
    rcases Xbk hy with hy|rfl
    ·exact C y hy
    ·omega
   ·show(out.set (i+k) _).drop (i+(k+1))=_
    rw[Xbr (by omega),show i+(k+1)=(i+k)+1 by omega,←Xa9,hd,Xa9]
   ·show wv ((out.set (i+k) _).take (i+(k+1)))+_=_
    rw[ZbL I]
    exact Zuk (a:=a) ho hd hv j
   ·show b.length-(k+1)<b.length-k;omega
   ·refine Zas rfl rfl ?_ ?_
    ·exact⟨⟨rfl,rfl⟩,⟨rfl,rfl⟩,⟨rfl,rfl⟩,⟨rfl,rfl,rfl⟩,rfl,rfl,ec,rfl,rfl,rfl,rfl,rfl,wi.symm,trivial⟩
    ·exact⟨⟨⟨rfl,rfl,trivial⟩,fun _=>rfl⟩,⟨⟨rfl,rfl,trivial⟩,fun _=>rfl⟩,⟨⟨rfl,trivial,trivial⟩,fun _=>rfl⟩,⟨er,fun _=>rfl⟩,trivial⟩
  ·have he:k=b.length:=by have:=of_decide_eq_false h;simp only at this;omega
   subst he
   rw[XaC]at j
   exact⟨rfl,c,out,_,R,U,hlen,C,j,rfl,rfl⟩
 ·exact⟨Xao _,XaT _,by show(0:Int)<4294967296;decide,hn,ab,rfl,by simp[wv]⟩
def ZBB (a:List Int) (n:Nat) (s:Nat×List Int):TM:=
 [(2, .ptr 0 0 0),(3, .ptr 1 0 0),(4, .ptr 2 0 0),(5, .ref 3 0 n none),(20,Zby a),(21, .v (.i .i64) (a.length:Int)),(22, .v (.i .i64) (s.1:Int))]
theorem Zyf (A B:Int) (hA:ln A≤400000) (hB:ln B≤400000):PureOK Tryz.prog Zao 54 [IS A,IS B] (fun V=>V=IS (A*B)):=by
 refine Zai Zag Tryz.func54 ?_
 obtain⟨a,ha⟩: ∃a,wOf A.natAbs=a:=⟨_,rfl⟩
 obtain⟨b,J⟩: ∃b,wOf B.natAbs=b:=⟨_,rfl⟩
 have al:a.length≤400000:=by rw[←ha];exact hA
 have an:b.length≤400000:=by rw[←J];exact hB
 have ag:Wd a:=ha▸ZdI _
 have ah:Wd b:=J▸ZdI _
 have ai:wv a=A.natAbs:=by rw[←ha];exact Zct _
 have aj:wv b=B.natAbs:=by rw[←J];exact Zct _
 have ea:IS A= .agg [.v .b (decide (A<0)),Zby a]:=by rw[←ha]
 have eb:IS B= .agg [.v .b (decide (B<0)),Zby b]:=by rw[←J]
 rw[ea,eb]
 refine Xaa rfl ?_
 refine Xaa rfl ?_
 have w1:IntKind.i64.wrap ((a.length:Int)+(b.length:Int))=((a.length+b.length:Nat):Int):=Zan (by omega) (by omega)
 have w3:a.length+b.length=(IntKind.i64.wrap ((a.length:Int)+(b.length:Int))).toNat:=by rw[w1];omega
 have w2: ∀x:Int,x=((a.length+b.length:Nat):Int)→0≤x∧x≤x∧(4:Int)*x≤281474976710656∧x<9223372036854775808:=fun x hx=>by omega
 have w4:List.replicate (a.length+b.length) (0:Int)=List.replicate (IntKind.i64.wrap ((a.length:Int)+(b.length:Int))).toNat 0:=by rw[←w3]
 refine Xaa (w2 _ w1) ?_
 refine Xaa rfl ?_
 refine Zaw Zag rfl (ZBB a (a.length+b.length)) (fun s=>ZvL (IS A) (IS B) s.2)
  (fun s=>s.1≤a.length∧s.2.length=a.length+b.length∧Wd s.2∧wv (s.2.take (s.1+b.length))=wv (a.take s.1)*wv b) (fun s=>a.length-s.1) ?_ (0,List.replicate (a.length+b.length) 0) ?_ ?_
 ·rintro⟨i,out⟩ ⟨hi,hlen,R,C⟩
  simp only at hi hlen R C
  refine Xaa (fun h=> ?_) (fun h=> ?_)
  ·have I:i<a.length:=by have:=of_decide_eq_true h;simp only at this;omega
   have ak:=ag _ (Xax I)
   refine⟨a[i],Xaj i,Xac I, ?_⟩
   refine Xaa rfl ?_
   refine((ZAN A B a b out (a.length+b.length) i a[i] ah ak hlen (by omega) (by omega) R).ent ?_).mono ?_
   ·refine Zas rfl rfl ?_ ?_
    ·exact⟨⟨rfl,rfl⟩,⟨rfl,rfl⟩,⟨rfl,rfl⟩,⟨rfl,rfl,rfl⟩,rfl,rfl,rfl,rfl,rfl,rfl,J.symm,(by show((b.length:Nat):Int)=_;rw[←J]),rfl,trivial⟩
    ·exact⟨⟨⟨rfl,rfl,trivial⟩,fun _=>rfl⟩,⟨⟨rfl,rfl,trivial⟩,fun _=>rfl⟩,⟨⟨rfl,trivial,trivial⟩,fun _=>rfl⟩,⟨rfl,fun _=>rfl⟩,trivial⟩
   rintro _ _ _ ⟨rfl,c,j,X,ad,ae,U,af,aa,rfl,rfl⟩
   have ho:i+b.length<j.length:=by omega
   have ab:IntKind.i64.wrap ((i:Int)+(((wOf B.natAbs).length:Nat):Int))=((i+b.length:Nat):Int):=by rw[J];exact Zan (by omega) (by omega)
   have et:(IntKind.i64.wrap ((i:Int)+(((wOf B.natAbs).length:Nat):Int))).toNat=i+b.length:=by rw[ab];omega
   refine Xaa rfl ?_
   refine Xaa ⟨(by rw[ab];omega),(by rw[ab];omega)⟩ ?_
   refine Exists.intro (j[i+b.length]) (Xaa (by show j[0+(IntKind.i64.wrap ((i:Int)+(((wOf B.natAbs).length:Nat):Int))).toNat]? =_;rw[et,Xaq];exact Xac ho) ?_)
   have er:j.set (i+b.length) c=j.set (0+(IntKind.i64.wrap ((i:Int)+(((wOf B.natAbs).length:Nat):Int))).toNat) (IntKind.u32.wrap c):=by
    rw[et,Za8,Xaq,Int.emod_eq_of_lt ad ae]
   have wi:IntKind.i64.wrap ((i:Int)+1)=((i+1:Nat):Int):=Zan (by omega) (by omega)
   refine⟨(i+1,j.set (i+b.length) c),⟨I, ?_, ?_, ?_⟩, ?_, ?_⟩
   ·show(j.set _ _).length=_;simpa using U
   ·intro y hy
    rcases Xbk hy with hy|rfl
    ·exact af y hy
    ·exact⟨ad,ae⟩
   ·show wv ((j.set (i+b.length) c).take (i+1+b.length))=wv (a.take (i+1))*wv b
    rw[show i+1+b.length=i+b.length+1 by omega,Zcl ho,ZdZ,Xas,XaL (Nat.le_of_lt ho),ZbL I,Int.add_mul,←C,Xbx,←aa]
    simp[wv]
   ·show a.length-(i+1)<a.length-i;omega
   ·refine Zas rfl rfl ?_ ?_
    ·exact⟨⟨rfl,rfl⟩,⟨rfl,rfl⟩,⟨rfl,rfl⟩,⟨rfl,rfl,rfl⟩,rfl,rfl,wi.symm,trivial⟩
    ·exact⟨⟨⟨rfl,rfl,trivial⟩,fun _=>rfl⟩,⟨⟨rfl,rfl,trivial⟩,fun _=>rfl⟩,⟨⟨rfl,trivial,trivial⟩,fun _=>rfl⟩,⟨er,fun _=>rfl⟩,trivial⟩
  ·have he:i=a.length:=by have:=of_decide_eq_false h;simp only at this;omega
   subst he
   rw[XaC,Xay (by omega)]at C
   refine Xaa rfl ?_
   refine Xaa rfl ?_
   refine Xaa (by show 0+(a.length+b.length)≤out.length;omega) ?_
   have hs:sub out 0 (a.length+b.length)=out:=by rw[sub,XaB,Xay (by omega)]
   refine(ZfK (!(decide (A<0)==decide (B<0))) (sub out 0 (a.length+b.length)) (by rw[hs];exact R) (by rw[hs];omega)).mono ?_
   rintro _ rfl
   refine⟨rfl,rfl, ?_⟩
   have:sg (!(decide (A<0)==decide (B<0))) (wv (sub out 0 (a.length+b.length)))=A*B:=by
    rw[hs,C,ai,aj]
    by_cases h0:A<0<;>by_cases h1:B<0
    ·rw[decide_eq_true h0,decide_eq_true h1]
     show(A.natAbs:Int)*B.natAbs=A*B
     rw[Int.ofNat_natAbs_of_nonpos (by omega),Int.ofNat_natAbs_of_nonpos (by omega),Int.neg_mul_neg]
    ·rw[decide_eq_true h0,decide_eq_false h1]
     show-((A.natAbs:Int)*B.natAbs)=A*B
     rw[Int.ofNat_natAbs_of_nonpos (by omega),Int.natAbs_of_nonneg (by omega),Int.neg_mul,Int.neg_neg]
    ·rw[decide_eq_false h0,decide_eq_true h1]
     show-((A.natAbs:Int)*B.natAbs)=A*B
     rw[Int.natAbs_of_nonneg (by omega),Int.ofNat_natAbs_of_nonpos (by omega),Int.mul_neg,Int.neg_neg]
    ·rw[decide_eq_false h0,decide_eq_false h1]
     show(A.natAbs:Int)*B.natAbs=A*B
     rw[Int.natAbs_of_nonneg (by omega),Int.natAbs_of_nonneg (by omega)]
   show IS (sg (!(decide (A<0)==decide (B<0))) (wv (sub out 0 (a.length+b.length))))=IS (A*B)
   rw[this]
 ·refine⟨Xao _,by simp,fun x hx=> ?_, ?_⟩
  ·have:=List.eq_of_mem_replicate hx
   rw[this];decide
  ·show wv ((List.replicate (a.length+b.length) 0).take (0+b.length))=_
   rw[List.take_replicate]
   have: ∀k,wv (List.replicate k 0)=0:=by
    intro k
    induction k with
    |zero=>rfl
    |succ k ih=>rw[List.replicate_succ,wv,ih];rfl
   rw[this];simp[wv]
 ·refine Zas rfl rfl ?_ ?_
  ·exact⟨⟨rfl,rfl⟩,⟨rfl,rfl⟩,⟨rfl,rfl⟩,⟨rfl,w3,w3⟩,rfl,rfl,rfl,trivial⟩
  ·exact⟨⟨⟨rfl,ha,trivial⟩,fun _=>rfl⟩,⟨⟨rfl,J,trivial⟩,fun _=>rfl⟩,⟨⟨rfl,trivial,trivial⟩,fun _=>rfl⟩,⟨w4,fun _=>rfl⟩,trivial⟩
theorem Zre (n:Nat):IS (n:Int)= .agg [.v .b false,Zby (wOf n)]:=by
 show SV.agg [.v .b (decide ((n:Int)<0)),Zby (wOf (n:Int).natAbs)]=_
 rw[decide_eq_false (by omega),XaV]
theorem Zw5 (a:List Int) (j:a.length≤10000000):PureOK Tryz.prog Zao 117 [Zby a] (fun V=>V=Zby a):=by
 refine PureOK.as (Q:=fun V=>V=Zby a∨(V= .nils∧a=[])) ?_ ?_
 rotate_left
 ·rintro V (h|⟨rfl,rfl⟩)
  ·exact⟨V,AsV.refl V,h⟩
  ·exact⟨_,AsV.nil _,rfl⟩
 refine Zai Zag Tryz.func117 ?_
 refine Xaa (fun C=> ?_) ?_
 ·refine Xaa (fun _=> ?_) (fun h=>nomatch h)
  exact .inr ⟨rfl,C⟩
 ·refine Xaa (fun h=>nomatch h) (fun _=> ?_)
  refine Xaa (by show 0+0≤0;decide) ?_
  cases a with
  |nil=>
   refine Xaa (by show 0+0≤0;decide) ?_
   exact .inl rfl
  |cons x r=>
   refine Xaa (by show(0+(r.length+1))*4≤_;simp at j;omega) ?_
   refine Xaa (by show 0+(0+(r.length+1))≤(x::r).length;simp) ?_
   refine .inl (congrArg Zby ?_)
   show sub (sub [] 0 0++x::r) 0 (0+(r.length+1))=x::r
   simp[sub]
theorem Ztr (m:Bool) (x:Int):(sg m x).natAbs=x.natAbs:=by cases m<;>simp[sg]
theorem ZxG (n:Nat):PureOK Tryz.prog Zao 73 [.agg [.v .b false,Zby (wOf n)]] (fun V=>V= .v (.i .i64) ((n:Int)).sign):=by
 rw[←Zre]
 exact ZsK n
def ZBI (t:Nat×Nat):List SM:=[.cell [.v .b false,Zby (wOf t.1)] true, .cell [.v .b false,Zby (wOf t.2)] true, .cell [.v .b false, .nils] true]
theorem ZBb (a b:Int) (C:ln a≤700000) (I:ln b≤700000):PureOK Tryz.prog Zao 101 [IS a,IS b] (fun V=>V=IS (Int.gcd a b:Int)):=by
 refine Zai Zag Tryz.func101 ?_
 refine Xaa rfl ?_
 refine Xaa rfl ?_
 refine Zaw Zag rfl (fun(_:Nat×Nat)=> [(2, .ptr 0 0 0),(3, .ptr 1 0 0),(4, .ptr 2 0 0)]) ZBI
  (fun t=>(wOf t.1).length≤700000∧(wOf t.2).length≤700000∧Nat.gcd t.1 t.2=Int.gcd a b) (fun t=>t.2) ?_ (a.natAbs,b.natAbs) ⟨C,I,rfl⟩ ?_
 ·rintro⟨A,B⟩ ⟨h1,J,j⟩
  simp only at h1 J j
  refine Xaa rfl ?_
  refine(ZxG B).mono ?_
  rintro _ rfl
  refine Xaa (fun h=> ?_) (fun h=> ?_)
  ·have hB:0<B:=by
    have R:(!decide ((B:Int).sign=0))=true:=h
    rcases Nat.eq_zero_or_pos B with h0|h0
    ·subst h0;simp at R
    ·exact h0
   refine Xaa rfl ?_
   refine Xaa rfl ?_
   refine(Zqs A B hB (by omega) (by omega)).mono ?_
   rintro _ ⟨q,r,rfl,q1,r1,q2,r2,q3,r3⟩
   refine Xaa rfl ?_
   refine(Zw5 r (by omega)).mono ?_
   rintro _ rfl
   refine(ZfK false r r1 (by omega)).mono ?_
   rintro _ rfl
   refine Xaa rfl ?_
   refine Xaa rfl ?_
   have U:sg false (wv r)=((A % B:Nat):Int):=r3
   have hm:A % B<B:=Nat.mod_lt _ hB
   refine⟨(B,A % B),⟨J,XaM (ZbK (Nat.le_of_lt hm)) J, ?_⟩,hm, ?_⟩
   ·show Nat.gcd B (A % B)=_
    rw[←j,Nat.gcd_comm A B,Nat.gcd_rec B A,Nat.gcd_comm]
   ·have e1:false=decide (sg false (wv r)<0):=by rw[U];exact(decide_eq_false (by omega)).symm
    have e2:wOf (A % B)=wOf (sg false (wv r)).natAbs:=by rw[U,XaV]
    refine Zas rfl rfl ?_ ?_
    ·exact⟨⟨rfl,rfl⟩,⟨rfl,rfl⟩,⟨rfl,rfl⟩,trivial⟩
    ·exact⟨⟨⟨rfl,rfl,trivial⟩,fun _=>rfl⟩,⟨⟨e1,e2,trivial⟩,fun _=>rfl⟩,⟨⟨rfl,trivial,trivial⟩,fun _=>rfl⟩,trivial⟩
  ·have hB:B=0:=by
    have R:(!decide ((B:Int).sign=0))=false:=h
    simpa using R
   subst hB
   refine⟨rfl,rfl,rfl, ?_⟩
   rw[Nat.gcd_zero_right]at j
   show SV.agg [.v .b false,Zby (wOf A)]=_
   rw[←j,Zre]
 ·refine Zas rfl rfl ?_ ?_
  ·exact⟨⟨rfl,rfl⟩,⟨rfl,rfl⟩,⟨rfl,rfl⟩,trivial⟩
  ·exact⟨⟨⟨rfl,rfl,trivial⟩,fun _=>rfl⟩,⟨⟨rfl,rfl,trivial⟩,fun _=>rfl⟩,⟨⟨rfl,trivial,trivial⟩,fun _=>rfl⟩,trivial⟩
def Zm5 (s p:List UInt8):Bool:=decide ((p.length:Int)≤(s.length:Int))&&(s.take p.length==p)
theorem Zhw (s p:List UInt8):PureOK Tryz.prog Zao 87 [.v .s s, .v .s p] (fun V=>V= .v .b (Zm5 s p)):=by
 refine Zai Zag Tryz.func87 ?_
 refine ZaX (Zbe rfl ?_)
 refine Zac ?_
 refine Zbr ?_
 refine ZaX (Zbe rfl ?_)
 iterate 6 refine Zac ?_
 cases j:decide ((p.length:Int)≤(s.length:Int))with
 |true=>
  have hle:(p.length:Int)≤(s.length:Int):=of_decide_eq_true j
  iterate 3 refine Zab rfl ?_
  refine Zaj rfl rfl rfl rfl (fun _=>rfl) ⟨Xaj _,hle⟩ rfl rfl ?_
  iterate 2 refine Zab rfl ?_
  refine Zat rfl ?_
  refine Zac ?_
  refine Zbr ?_
  show SV.v .b (List.drop 0 (s.take ((p.length:Int).toNat))==p)= .v .b (Zm5 s p)
  rw[Zm5,j,XaB,Xad,Bool.true_and]
 |false=>
  iterate 6 refine Zah rfl ?_
  refine Zal rfl ?_
  refine Zac ?_
  refine Zbr ?_
  show SV.v .b false= .v .b (Zm5 s p)
  rw[Zm5,j,XbD]
theorem ZnS (s p:List UInt8):PureOK Tryz.prog Zao 68 [.v .s s, .v .s p] (fun V=>V= .v .b (Zm5 s p)):=by
 refine Zai Zag Tryz.func68 ?_
 refine(Zhw s p).mono ?_
 rintro _ rfl
 rfl
theorem Zll (s p:List UInt8):PureOK Tryz.prog Zao 88 [.v .s s, .v .s p] (fun V=>V= .v .s (match Zm5 s p with|true=>s.drop p.length|false=>s)):=by
 refine Zai Zag Tryz.func88 ?_
 refine(Zhw s p).mono ?_
 rintro _ rfl
 refine Xaa (fun h=> ?_) (fun h=> ?_)
 ·have hle:(p.length:Int)≤(s.length:Int):=by
   have j:=h
   simp only[Zm5,Xag,decide_eq_true_eq]at j
   exact j.1
  refine Xaa ⟨Xaj _,hle⟩ ?_
  have e:(s.take s.length).drop ((p.length:Int).toNat)=s.drop p.length:=by rw[XaC,Xad]
  rw[h]
  exact congrArg (SV.v .s) e
 ·rw[h]
  rfl
theorem Zhv (s p:List UInt8):PureOK Tryz.prog Zao 69 [.v .s s, .v .s p] (fun V=>V= .v .s (match Zm5 s p with|true=>s.drop p.length|false=>s)):=by
 refine Zai Zag Tryz.func69 ?_
 refine(Zll s p).mono ?_
 rintro _ rfl
 rfl
theorem ZxE {s:List UInt8} (h:Dg s):Zys s=true:=by
 refine Xau.2 fun c j=> ?_
 obtain⟨C,I⟩:=h c j
 rw[Xag]
 exact⟨Xbj C,Xbj I⟩
theorem ZnA (x:List UInt8) (C:Dg x) (I:1≤x.length) (J:x.length≤9):PureOK Tryz.prog Zao 70 [.v .s x, .v (.i .i64) 10, .v (.i .i64) 32] (fun V=>V= .tup [.v (.i .u64) (dec x:Nat), .nili]):=by
 refine⟨fun qs j=> ?_⟩
 simp only[RL,RV,RR,List.cons.injEq,and_true]at j
 obtain⟨_,_,rfl,rfl,_,_,rfl,rfl,_,_,rfl,rfl,rfl⟩:=j
 refine⟨.tup [.int .u64 (dec x:Nat), .nili],_, ?_, ?_,rfl⟩
 ·show(parseG [.str ⟨x.toArray⟩, .int .i64 10, .int .i64 32]).bind (fun v=>exp ZaL [] v)=_
  have R:=ZxE C
  have U:Nat.ble 1 x.length=true:=Xbj I
  have b9:Nat.ble x.length 9=true:=Xbj J
  have e:parseG [.str ⟨x.toArray⟩, .int .i64 10, .int .i64 32]=some (.tup [.int .u64 (dec x:Nat), .nili]):=by
   simp only[parseG,R,U,b9,decide_true,Bool.and_self]
  rw[e]
  rfl
 ·simp only[RV,RL,RR]
  exact⟨_,rfl,_,_,rfl,rfl,_,_,rfl,rfl,rfl⟩
theorem ZiZ: ∀ {a:List Int} {es:List (List PV)},Wd a→All2 (RR (.i .u32)) a es→Ze0 es=some a
 | [],[],_,_=>rfl
 |x::a,c::es,hw,h=>by
  obtain⟨j,I⟩:=h
  simp only[RR]at j
  subst j
  have C:=hw x Xah
  have:(decide (0≤x)&&decide (x<4294967296))=true:=by rw[decide_eq_true C.1,decide_eq_true C.2];rfl
  simp only[Ze0,this,ZiZ (fun y J=>hw y (Xai _ J)) I,Xak]
theorem Zzy (v:Int):PureOK Tryz.prog Zao 115 [IS v] (fun V=>V= .tup [.v .s (Zfv (decide (v<0)) (wOf v.natAbs)), .v .b (Zew (wOf v.natAbs))]):=by
 refine⟨fun J j=> ?_⟩
 obtain⟨a,I⟩: ∃a,wOf v.natAbs=a:=⟨_,rfl⟩
 have hw:Wd a:=I▸ZdI _
 change RL [] [.agg [.v .b (decide (v<0)),Zby (wOf v.natAbs)]] J at j
 rw[I]at j⊢
 simp only[RL,RV,RR,List.cons.injEq,and_true]at j
 obtain⟨_,_,rfl,⟨_,rfl,_,_,rfl,rfl,_,_,rfl,R,rfl⟩,rfl⟩:=j
 refine⟨.tup [.str ⟨(Zfv (decide (v<0)) a).toArray⟩, .bool (Zew a)],_, ?_, ?_,rfl⟩
 ·show(textG _).bind (fun v=>exp ZaL [] v)=_
  rcases R with⟨rfl,rfl⟩|⟨es,rfl,C⟩
  ·rfl
  ·simp only[textG,ZiZ hw C,Xak]
   rfl
 ·simp only[RV,RL,RR]
  exact⟨_,rfl,_,_,rfl,rfl,_,_,rfl,rfl,rfl⟩
open Go.Am Go.Tx Dv Go.Lib
abbrev QS (n d:Int):SV:= .agg [.v .b (decide (n<0)),Zby (wOf n.natAbs), .v .b (decide (d<0)),Zby (wOf d.natAbs)]
theorem Zsv (n:Int) (j: -9223372036854775808≤n) (C:n<9223372036854775808):PureOK Tryz.prog Zao 28 [.v (.i .i64) n] (fun V=>V=QS n 1):=by
 refine Zai Zag Tryz.func28 ?_
 refine(ZzC n j C).mono ?_
 rintro _ rfl
 refine(ZzC 1 (by decide) (by decide)).mono ?_
 rintro _ rfl
 refine Xaa rfl ?_
 first|rfl|exact⟨rfl,rfl⟩|exact⟨rfl,rfl,rfl⟩|exact⟨rfl,rfl,rfl,rfl⟩
theorem ZyZ (n d:Int) (j:ln n≤1000000):PureOK Tryz.prog Zao 53 [QS n d] (fun V=>V=QS (-n) d):=by
 refine Zai Zag Tryz.func53 ?_
 refine Xaa rfl ?_
 refine(ZzF n j).mono ?_
 rintro _ rfl
 refine Xaa rfl ?_
 refine Xaa rfl ?_
 first|rfl|exact⟨rfl,rfl⟩|exact⟨rfl,rfl,rfl⟩|exact⟨rfl,rfl,rfl,rfl⟩
abbrev QR (q:Rat):SV:=QS q.num (q.den:Int)
theorem ZiF {n d:Int} (j:0<d):(Rat.divInt n d).num=n/(Int.gcd n d:Int)∧((Rat.divInt n d).den:Int)=d/(Int.gcd n d:Int):=by
 rw[Rat.num_divInt,Rat.den_divInt,Int.sign_eq_one_of_pos j,if_neg (by omega),Int.one_mul,Int.gcd_comm d n,Int.natCast_ediv,Int.natAbs_of_nonneg (by omega)]
 exact⟨rfl,rfl⟩
def szQ (q:Rat) (k:Nat):Prop:=ln q.num≤k∧ln (q.den:Int)≤k
theorem Zpq (p q:Rat):Rat.divInt (p.num*q.den+q.num*p.den) (p.den*q.den)=p+q:=by
 rw[Rat.add_def',←XaX,Rat.divInt_ofNat]
def Zqk (p q:Rat):Int:=(p.num*q.den-q.num*p.den).sign
theorem ZoG (p q:Rat):Zqk p q=(p-q).num.sign:=by
 rw[Rat.sub_def',←Rat.divInt_ofNat,Zqk,(ZiF (by have:=Nat.mul_pos p.den_pos q.den_pos;omega)).1]
 obtain⟨n,I⟩: ∃n,p.num*q.den-q.num*p.den=n:=⟨_,rfl⟩
 rw[I]
 obtain⟨k,j⟩:(Int.gcd n ((p.den*q.den:Nat):Int):Int)∣n:=Int.gcd_dvd_left _ _
 have C:0<(Int.gcd n ((p.den*q.den:Nat):Int):Int):=by
  have:0<Int.gcd n ((p.den*q.den:Nat):Int):=Int.gcd_pos_of_ne_zero_right _ (by have:=Nat.mul_pos p.den_pos q.den_pos;omega)
  omega
 obtain⟨g,e⟩: ∃g:Int,(Int.gcd n ((p.den*q.den:Nat):Int):Int)=g:=⟨_,rfl⟩
 rw[e]at C j⊢
 rw[j,Int.mul_ediv_cancel_left _ (by omega),Int.sign_mul,Int.sign_eq_one_of_pos C,Int.one_mul]
theorem Zo7 (v:Int):sg (decide (v<0)) ((v.natAbs:Nat):Int)=v:=by
 by_cases h:v<0
 ·rw[decide_eq_true h];simp only[sg];omega
 ·rw[decide_eq_false h];simp only[sg];omega
theorem Zx1 (q:Rat) {k:Nat} (C:k≤100000) (j:szQ q k):PureOK Tryz.prog Zao 53 [QR q] (fun V=>V=QR (-q)):=ZyZ q.num q.den (XaM j.1 (by omega))
theorem ZzW {q:Rat} {k:Nat} (j:szQ q k):szQ (-q) k:=by
 obtain⟨C,I⟩:=j
 refine⟨?_,I⟩
 show ln (-q.num)≤k
 rw[Zv7]
 exact C
theorem Zzc (p q:Rat) {k:Nat} (C:k≤100000) (hp:szQ p k) (j:szQ q k):PureOK Tryz.prog Zao 27 [QR p,QR q] (fun V=>V= .v (.i .i64) (Zqk p q)):=by
 obtain⟨I,J⟩:=hp
 obtain⟨R,U⟩:=j
 have l1:=Zsz p.num q.den
 have l2:=Zsz q.num p.den
 refine Zai Zag Tryz.func27 ?_
 refine Xaa rfl ?_
 refine Xaa rfl ?_
 refine(Zyf p.num q.den (by omega) (by omega)).mono ?_
 rintro _ rfl
 refine Xaa rfl ?_
 refine Xaa rfl ?_
 refine(Zyf q.num p.den (by omega) (by omega)).mono ?_
 rintro _ rfl
 refine(ZAu (p.num*q.den) (q.num*p.den) (by omega) (by omega)).mono ?_
 rintro _ rfl
 rfl
open Ne Dv Go.Lib
def rg {α:Type} (n:Nat) (f:Nat→α):List α:=(List.range n).map f
theorem ZdC {α:Type} {n:Nat} {f:Nat→α}:(rg n f).length=n:=by rw[rg,Xa0,List.length_range]
theorem Zh0 {α:Type} {n i:Nat} {f:Nat→α} (h:i<n):(rg n f)[i]? =some (f i):=by rw[rg,Xa2,List.getElem?_range h];rfl
theorem Zwb {α:Type} {n:Nat} {f g:Nat→α} (h: ∀j,j<n→f j=g j):rg n f=rg n g:=List.map_congr_left fun j C=>h j (List.mem_range.1 C)
theorem ZvU {α:Type} {n i:Nat} {f g:Nat→α} {v:α} (C:g i=v) (h: ∀j,j≠i→f j=g j):(rg n f).set i v=rg n g:=by
 refine List.ext_getElem? fun j=> ?_
 rcases XaO j n with hj|hj
 ·rw[List.getElem?_set,ZdC,Zh0 hj,Zh0 hj]
  by_cases e:i=j
  ·subst e;rw[if_pos rfl,if_pos hj,C]
  ·rw[if_neg e,h j (fun h=>e h.symm)]
 ·rw[List.getElem?_eq_none (by rw[XaN,ZdC];exact hj),List.getElem?_eq_none (by rw[ZdC];exact hj)]
theorem Zcf {α:Type} {n:Nat} {x:α}:List.replicate n x=rg n fun _=>x:=by rw[rg,List.map_const',List.length_range]
abbrev St:=Rat×(Int×Bool)
abbrev St0:St:=(0,0,false)
def Zjw (q:Rat):Rat:=bif decide (q.num.sign<0)then-q else q
def lim (b:Br):Int:=b.2.2.2.2.2.2.1
def sho (b:Br):Int:=b.2.2.2.2.2.2.2.1
def hol (b:Br):Int:=b.2.2.2.2.2.2.2.2
def gtQ (q:Rat) (n:Int):Bool:=decide (0<Zqk q (n:Rat))
theorem Zwu {q:Rat} {n:Int}:decide (Zqk q (n:Rat)≤0)= !gtQ q n:=by
 rw[gtQ,←decide_not]
 exact decide_eq_decide.2 Int.not_lt.symm
theorem Zon {n:Int} (h:0≤n):gtQ 0 n=false:=by
 rw[gtQ,ZoG]
 refine decide_eq_false ?_
 have e:((0:Rat)-(n:Rat))=((-n:Int):Rat):=by rw[Rat.sub_eq_add_neg,Rat.zero_add,Rat.intCast_neg]
 rw[e]
 have j:((-n:Int):Rat).num= -n:=rfl
 rw[j,Int.sign_neg]
 rcases Int.lt_or_eq_of_le h with h|h
 ·rw[Int.sign_eq_one_of_pos h];decide
 ·rw[←h];decide
def ZeP (b:Br) (f:Rat) (s:Int) (st:St):St:=
 bif gtQ f (lim b)then(f,st.2.1+s,st.2.2||(decide (hol b<st.2.1+s)||gtQ f (sho b)))else(f,0,false)
def Zil (b:Br) (st:St):Int:=bif st.2.2 then 0 else bif gtQ st.1 (lim b)then hol b-st.2.1 else-1
abbrev Go2:=List Rat×Int
def brA (n:Net) (j:Nat):Br:=n.brs.getD j ([],[],[],0,0,0,0,0,0)
def Ze6 (n:Net) (x:Go2) (S:Nat→St) (j:Nat):St:=ZeP (brA n j) (Zjw (x.1.getD j 0)) x.2 (S j)
def ZbT (n:Net) (j:Nat) (g:List Go2):St:=g.foldl (fun st x=>ZeP (brA n j) (Zjw (x.1.getD j 0)) x.2 st) St0
theorem Zop (n:Net) (j:Nat) (g:List Go2) (x:Go2):ZbT n j (g++ [x])=ZeP (brA n j) (Zjw (x.1.getD j 0)) x.2 (ZbT n j g):=by rw[ZbT,List.foldl_append];rfl
def Zdc (g:List Go2):Int:=(g.map (·.2)).sum
theorem Zu0 (g:List Go2) (x:Go2):Zdc (g++ [x])=Zdc g+x.2:=by simp[Zdc]
theorem ZiK {n:Net} {j:Nat} {b:Br} (h:n.brs[j]? =some b):brA n j=b:=by rw[brA,Xa1,h];rfl
def Zyz (t:Int) (b:Br) (st:St):Prop:=0≤st.2.1∧st.2.1≤t∧(st.2.2=false→gtQ st.1 (lim b)=true→st.2.1≤hol b)∧(gtQ st.1 (lim b)=false→st.2=(0,false))
theorem Zvh {b:Br} {f:Rat} {s t:Int} {st:St} (C:0≤s) (I:0≤t) (h:Zyz t b st):Zyz (t+s) b (ZeP b f s st):=by
 obtain⟨J,R,_,_⟩:=h
 unfold ZeP
 cases j:gtQ f (lim b)with
 |false=>
  refine⟨XaT 0,by show(0:Int)≤t+s;omega,fun _ h=> ?_,fun _=>rfl⟩
  have h:gtQ f (lim b)=true:=h
  rw[j]at h
  cases h
 |true=>
  refine⟨by show 0≤st.2.1+s;omega,by show st.2.1+s≤t+s;omega,fun h _=> ?_,fun h=> ?_⟩
  rotate_left 1
  ·have h:gtQ f (lim b)=false:=h
   rw[j]at h
   cases h
  simp only[cond_true,Xbg,decide_eq_false_iff_not]at h
  show st.2.1+s≤hol b
  omega
theorem ZvV {n:Net} {j:Nat}: ∀ (g:List Go2) (t:Int) (st:St),0≤t→Zyz t (brA n j) st→(∀x∈g,0≤x.2)→Zyz (t+Zdc g) (brA n j) (g.foldl (fun st x=>ZeP (brA n j) (Zjw (x.1.getD j 0)) x.2 st) st)∧0≤t+Zdc g
 | [],t,st,C,h,_=>by rw[show Zdc []=0 from rfl,Int.add_zero];exact⟨h,C⟩
 |x::g,t,st,C,h,I=>by
  have J:=I x Xah
  have:=ZvV g (t+x.2) _ (by omega) (Zvh (f:=Zjw (x.1.getD j 0)) J C h) fun y R=>I y (Xai _ R)
  rw[show Zdc (x::g)=x.2+Zdc g from rfl,←Int.add_assoc]
  exact this
theorem Zk8 {n:Net} {j:Nat} (C:0≤lim (brA n j)) (g:List Go2) (I: ∀x∈g,0≤x.2):Zyz (Zdc g) (brA n j) (ZbT n j g)∧0≤Zdc g:=by
 have h:=ZvV (n:=n) (j:=j) g 0 St0 (XaT 0) ⟨XaT 0,XaT 0,fun _ h=>(by rw[Zon C]at h;cases h),fun _=>rfl⟩ I
 rw[Int.zero_add]at h
 exact h
def ovN (n:Net) (S:Nat→St) (i:Nat):List Txt:=((List.range i).filter fun j=>(S j).2.2).map fun j=>(brA n j).1
theorem ZpA (n:Net) (S:Nat→St) (i:Nat):ovN n S (i+1)=ovN n S i++(bif (S i).2.2 then[(brA n i).1]else[]):=by
 rw[ovN,List.range_succ,List.filter_append,XbM,ovN]
 congr 1
 rw[List.filter_cons]
 cases(S i).2.2<;>rfl
theorem Zna (n:Net) (S:Nat→St) (i:Nat):(ovN n S i).length≤i:=by
 rw[ovN,Xa0]
 exact XaM (List.length_filter_le _ _) (by rw[List.length_range];exact Xan i)
def itr (up sh:Bool) (h u:Int) (o:Bool) (c:Nat):Int×Bool:=match c with
 |0=>(u,o)
 |c+1=>bif up then(u+((c+1:Nat):Int),o||(decide (h<u+((c+1:Nat):Int))||sh))else(0,false)
theorem ZvJ (up sh:Bool) (h u:Int) (o:Bool) (c:Nat):itr up sh h u o (c+1)=
 (bif up then(itr up sh h u o c).1+1 else 0,bif up then(bif (itr up sh h u o c).2 then true else bif decide (h<(itr up sh h u o c).1+1)then true else sh)else false):=by
 cases up with
 |false=>rfl
 |true=>
  cases c with
  |zero=>
   show(u+1,o||(decide (h<u+1)||sh))=(u+1,bif o then true else bif decide (h<u+1)then true else sh)
   cases o<;>cases decide (h<u+1)<;>rfl
  |succ c=>
   simp only[itr,cond_true]
   have e:((c+1+1:Nat):Int)=((c+1:Nat):Int)+1:=rfl
   rw[e,←Int.add_assoc]
   refine Prod.ext rfl ?_
   show(o||(decide (h<u+((c+1:Nat):Int)+1)||sh))=bif (o||(decide (h<u+((c+1:Nat):Int))||sh))then true else bif decide (h<u+((c+1:Nat):Int)+1)then true else sh
   cases j:decide (h<u+((c+1:Nat):Int))with
   |true=>
    have C:decide (h<u+((c+1:Nat):Int)+1)=true:=decide_eq_true (by have:=of_decide_eq_true j;omega)
    rw[C]
    cases o<;>rfl
   |false=>cases o<;>cases sh<;>cases decide (h<u+((c+1:Nat):Int)+1)<;>rfl
theorem Zxp (b:Br) (f:Rat) (s:Nat) (st:St) (j:1≤s):itr (gtQ f (lim b)) (gtQ f (sho b)) (hol b) st.2.1 st.2.2 s=(ZeP b f (s:Int) st).2:=by
 obtain⟨c,rfl⟩: ∃c,s=c+1:=⟨s-1,by omega⟩
 rw[ZeP]
 cases gtQ f (lim b)<;>rfl
end Go.Proofs.YtapbiodcncnnfaaGreatDoor
namespace Go.Tx
open Go.Am
section
variable {P : Program} {h : Hints} {T : TypeId → TI} {tm : TM} {hp : List SM} {F : Nat}
theorem Zgv {k:Ex→TM→List SM→Prop} {n:TM→List SM→Prop} (j:n tm hp):Zx4 k n .normal tm hp:=j
theorem ZdW {id:Nat} {k:Ex→TM→List SM→Prop} (j:k .normal tm hp):ZsD id k .normal tm hp:=j
theorem ZiQ {c:Cx} {k:Ex→TM→List SM→Prop} (j:k .normal tm hp):wp P h T F c .skip tm hp k:=j
variable {N : Nat} {ds : List (Option Tmp)} {o : Oper} {l : List Oper} {kk : TM → List SM → Prop} {j d dd : Nat} {w t : Bool} {V : SV}
theorem ZAU {hp':List SM} (C:o.guard=none) (he: ∀k,opT P h T o.op tm hp k=k V hp') (I:o.dst=some dd) (hN:Nat.ble (dd+1) N=true) (j:wpOps P h T N ds l ((dd,V)::tm) hp' kk):wpOps P h T N ds (o::l) tm hp kk:=by
 refine Zad C ?_
 rw[he]
 have j:=Zaa (c:=fun tm'=>wpOps P h T N ds l tm' hp' kk) (V:=V) (tm:=tm) I hN j
 exact j
theorem ZbB {hp':List SM} (j:wpOps P h T N ds l ((dd,V)::tm) hp' kk) (C:o.guard=none:=by exact rfl) (he: ∀k,opT P h T o.op tm hp k=k V hp':=by exact fun _=>rfl) (I:o.dst=some dd:=by exact rfl) (hN:Nat.ble (dd+1) N=true:=by exact rfl):wpOps P h T N ds (o::l) tm hp kk:=ZAU C he I hN j
end
theorem Zae {p q:Prop} (h:q) (k:q→p:=by
 intro h
 repeat (first|refine ZiQ ?_|refine Zgv ?_|refine ZdW ?_)
 first|((repeat first|with_reducible refine ZaX ?_|((with_reducible refine ZeR ?_ ?_);rfl));exact Zbe rfl h)|exact ZaX (Zbe rfl h)|exact ZaX (ZaX (Zbe rfl h))):p:=k h
theorem Zaf {p q:Prop} (h:q) (k:q→p:=by
 intro h
 refine Zbr ?_
 repeat (first|refine Zgv ?_|refine ZdW ?_)
 exact h):p:=k h
open Go.Am
mutual
theorem Zni {φ:Ph} {n:Nat}: ∀ (V:SV) (q:PV),(∀id∈Zdt V,id<n)→RV φ V q→RV (φ.take n) V q
 | .v _ _,_,_,h| .nilp,_,_,h| .nils,_,_,h| .nilf,_,_,h| .nili,_,_,h| .nilmp,_,_,h| .box _ _ _,_,_,h=>by simpa only[RV]using h
 | .ref id i m mm,q,j,h=>by
  have hid:=j id (by simp[Zdt])
  simp only[RV]at h⊢
  rw[Xbz hid]
  exact h
 | .ptr id i r,q,j,h=>by
  have hid:=j id (by simp[Zdt])
  simp only[RV]at h⊢
  rw[Xbz hid]
  exact h
 | .func f a c,q,j,h=>by
  simp only[Zdt,XaA]at j
  simp only[RV]at h⊢
  obtain⟨R,U,I,J,h3⟩:=h
  exact⟨R,U,I,RL_take a R (fun id hi=>j id (.inl hi)) J,RL_take c U (fun id hi=>j id (.inr hi)) h3⟩
 | .agg cs,q,j,h=>by
  simp only[Zdt]at j
  simp only[RV]at h⊢
  obtain⟨C,I,J⟩:=h
  exact⟨C,I,RL_take cs C j J⟩
 | .tup cs,q,j,h=>by
  simp only[Zdt]at j
  simp only[RV]at h⊢
  obtain⟨C,I,J⟩:=h
  exact⟨C,I,RL_take cs C j J⟩
 | .mp id,q,j,h=>by
  have hid:=j id (by simp[Zdt])
  simp only[RV]at h⊢
  rw[Xbz hid]
  exact h
theorem RL_take {φ:Ph} {n:Nat}: ∀ (l:List SV) (j:List PV),(∀id∈rchL l,id<n)→RL φ l j→RL (φ.take n) l j
 | [],_,_,h=>by simpa only[RL]using h
 |v::vs,j,C,h=>by
  simp only[rchL,XaA]at C
  simp only[RL]at h⊢
  obtain⟨q,r,I,J,R⟩:=h
  exact⟨q,r,I,Zni v q (fun id hi=>C id (.inl hi)) J,RL_take vs r (fun id hi=>C id (.inr hi)) R⟩
end
def ZiL:SM→List Nat
 | .cell cs _=>rchL cs
 | .many _ j _=>rchL j
 |_=> []
theorem Zmi {φ:Ph} {n:Nat}: ∀ {j:List SV} {es:List (List PV)},(∀id∈rchL j,id<n)→All2 (fun V c=> ∃q,c=[q]∧RV φ V q) j es→All2 (fun V c=> ∃q,c=[q]∧RV (φ.take n) V q) j es
 | [],[],_,_=>trivial
 |V::j,c::es,C,h=>by
  simp only[rchL,XaA]at C
  obtain⟨⟨q,I,J⟩,R⟩:=h
  exact⟨⟨q,I,Zni V q (fun id hi=>C id (.inl hi)) J⟩,Zmi (fun id hi=>C id (.inr hi)) R⟩
theorem ZxL {φ:Ph} {n:Nat} {L:Nat→Option Mem} {o:Option Nat} {sm:SM} (U: ∀id∈ZiL sm,id<n) (h:RM φ L o sm):RM (φ.take n) L o sm:=by
 cases sm with
 |row t l m=>simpa only[RM]using h
 |cell cs m=>
  simp only[RM]at h⊢
  obtain⟨a,j,C,I,J,R,h4⟩:=h
  exact⟨a,j,C,I,J,RL_take cs j U R,h4⟩
 |many ct aa m=>
  simp only[RM]at h⊢
  cases o with
  |none=>exact h
  |some a=>
   obtain⟨es,C,I,J,R⟩:=h
   exact⟨es,C,I,Zmi U J,R⟩
 |set ks=>simpa only[RM]using h
 |dead=>trivial
def ZAw (n:Nat) (tm:TM):TM→Prop
 | []=>True
 |(i,V')::r=>ZcD i tm=some V'∧(∀id∈Zdt V',id<n)∧ZAw n tm r
theorem ZoS {n:Nat} {tm:TM}: ∀ {tm':TM} {i:Nat} {V:SV},ZAw n tm tm'→ZcD i tm'=some V→ZcD i tm=some V∧ ∀id∈Zdt V,id<n
 | [],_,_,_,h=>by cases h
 |(j,W)::r,i,V,I,h=>by
  obtain⟨J,R,U⟩:=I
  simp only[ZcD]at h
  cases C:Nat.beq i j with
  |true=>
   rw[C]at h
   cases h
   rw[Xam C]
   exact⟨J,R⟩
  |false=>
   rw[C]at h
   exact ZoS U h
theorem Zfs {F:Nat} {tm tm':TM} {hp0 ex:List SM} (hF:F≤hp0.length) (aa:ZAw hp0.length tm tm') (I: ∀m∈hp0,∀id∈ZiL m,id<hp0.length):Ent F tm (hp0++ex) tm' hp0:=by
 refine⟨fun φ st _ J=> ?_⟩
 have hlen:=J.hp.len
 rw[Xaw]at hlen
 refine⟨φ.take hp0.length,fun id hid=>by rw[Xbz (by omega)], ?_, ?_⟩
 ·intro i V hi
  obtain⟨R,U⟩:=ZoS aa hi
  obtain⟨q,h3,h4⟩:=J.tm i V R
  exact⟨q,h3,Zni V q U h4⟩
 ·refine⟨by rw[Xas];omega, ?_, ?_⟩
  ·intro id sm o C ho
   have hid:=(Xae.1 C).1
   rw[Xbz hid]at ho
   have hm:=J.hp.row id sm o (by rw[Xar hid];exact C) ho
   exact ZxL (I sm (XaI C)) hm
  ·intro id ab sm ad a ae R U h3 h4 h5 h6
   have hid:=(Xae.1 R).1
   have j:=(Xae.1 U).1
   rw[Xbz hid]at h5
   rw[Xbz j]at h6
   exact J.hp.inj id ab sm ad a ae (by rw[Xar hid];exact R) (by rw[Xar j];exact U) h3 h4 h5 h6
mutual
def rnV (f:Nat→Nat):SV→SV
 | .ref id i n m=> .ref (f id) i n m
 | .ptr id i r=> .ptr (f id) i r
 | .func g a c=> .func g (rnL f a) (rnL f c)
 | .agg cs=> .agg (rnL f cs)
 | .tup vs=> .tup (rnL f vs)
 | .v t x=> .v t x
 | .nilp=> .nilp
 | .nils=> .nils
 | .nilf=> .nilf
 | .nili=> .nili
 | .nilmp=> .nilmp
 | .box t x r=> .box t x r
 | .mp id=> .mp (f id)
def rnL (f:Nat→Nat):List SV→List SV
 | []=> []
 |v::r=>rnV f v::rnL f r
end
def rnM (f:Nat→Nat):SM→SM
 | .row t l m=> .row t l m
 | .cell cs m=> .cell (rnL f cs) m
 | .many ct j m=> .many ct (rnL f j) m
 | .set ks=> .set ks
 | .dead=> .dead
mutual
theorem Zq5 {φ U:Ph} {f:Nat→Nat} {n:Nat} (h: ∀id,id<n→U[id]? =φ[f id]?): ∀ (V:SV) (q:PV),(∀id∈Zdt V,id<n)→RV φ (rnV f V) q→RV U V q
 | .v _ _,_,_,j| .nilp,_,_,j| .nils,_,_,j| .nilf,_,_,j| .nili,_,_,j| .nilmp,_,_,j| .box _ _ _,_,_,j=>by simpa only[rnV,RV]using j
 | .ref id i m mm,q,C,j=>by
  have hid:=C id (by simp[Zdt])
  simp only[rnV,RV]at j⊢
  rw[h id hid]
  exact j
 | .ptr id i r,q,C,j=>by
  have hid:=C id (by simp[Zdt])
  simp only[rnV,RV]at j⊢
  rw[h id hid]
  exact j
 | .func g a c,q,C,j=>by
  simp only[Zdt,XaA]at C
  simp only[rnV,RV]at j⊢
  obtain⟨a',c',J,R,h3⟩:=j
  exact⟨a',c',J,RL_map h a a' (fun id hi=>C id (.inl hi)) R,RL_map h c c' (fun id hi=>C id (.inr hi)) h3⟩
 | .agg cs,q,C,j=>by
  simp only[Zdt]at C
  simp only[rnV,RV]at j⊢
  obtain⟨I,J,R⟩:=j
  exact⟨I,J,RL_map h cs I C R⟩
 | .tup cs,q,C,j=>by
  simp only[Zdt]at C
  simp only[rnV,RV]at j⊢
  obtain⟨I,J,R⟩:=j
  exact⟨I,J,RL_map h cs I C R⟩
 | .mp id,q,C,j=>by
  have hid:=C id (by simp[Zdt])
  simp only[rnV,RV]at j⊢
  rw[h id hid]
  exact j
theorem RL_map {φ J:Ph} {f:Nat→Nat} {n:Nat} (h: ∀id,id<n→J[id]? =φ[f id]?): ∀ (l:List SV) (C:List PV),(∀id∈rchL l,id<n)→RL φ (rnL f l) C→RL J l C
 | [],_,_,j=>by simpa only[rnL,RL]using j
 |v::vs,C,I,j=>by
  simp only[rchL,XaA]at I
  simp only[rnL,RL]at j⊢
  obtain⟨q,r,R,U,h3⟩:=j
  exact⟨q,r,R,Zq5 h v q (fun id hi=>I id (.inl hi)) U,RL_map h vs r (fun id hi=>I id (.inr hi)) h3⟩
end
theorem ZoD {φ J:Ph} {f:Nat→Nat} {n:Nat} (h: ∀id,id<n→J[id]? =φ[f id]?): ∀ {j:List SV} {es:List (List PV)},(∀id∈rchL j,id<n)→All2 (fun V c=> ∃q,c=[q]∧RV φ V q) (rnL f j) es→All2 (fun V c=> ∃q,c=[q]∧RV J V q) j es
 | [],[],_,_=>trivial
 | [],_::_,_,C=>C.elim
 |V::j,c::es,I,C=>by
  simp only[rchL,XaA]at I
  obtain⟨⟨q,R,U⟩,h3⟩:=C
  exact⟨⟨q,R,Zq5 h V q (fun id hi=>I id (.inl hi)) U⟩,ZoD h (fun id hi=>I id (.inr hi)) h3⟩
theorem Zzw {φ ψ:Ph} {f:Nat→Nat} {n:Nat} (h: ∀id,id<n→ψ[id]? =φ[f id]?) {L:Nat→Option Mem} {o:Option Nat} {sm:SM} (hb: ∀id∈ZiL sm,id<n) (j:RM φ L o (rnM f sm)):RM ψ L o sm:=by
 cases sm with
 |row t l m=>simpa only[rnM,RM]using j
 |cell cs m=>
  simp only[rnM,RM]at j⊢
  obtain⟨a,C,I,J,R,U,h4⟩:=j
  exact⟨a,C,I,J,R,RL_map h cs C hb U,h4⟩
 |many ct aa m=>
  simp only[rnM,RM]at j⊢
  cases o with
  |none=>
   simp only at j⊢
   cases aa with
   |nil=>rfl
   |cons v r=>simp[rnL]at j
  |some a=>
   obtain⟨es,I,J,R,U⟩:=j
   exact⟨es,I,J,ZoD h hb R,U⟩
 |set ks=>simpa only[rnM,RM]using j
 |dead=>trivial
def Zwy (f:Nat→Nat) (n:Nat) (tm:TM):TM→Prop
 | []=>True
 |(i,V')::r=>ZcD i tm=some (rnV f V')∧(∀id∈Zdt V',id<n)∧Zwy f n tm r
theorem ZpO {f:Nat→Nat} {n:Nat} {tm:TM}: ∀ {tm':TM} {i:Nat} {V:SV},Zwy f n tm tm'→ZcD i tm'=some V→ZcD i tm=some (rnV f V)∧ ∀id∈Zdt V,id<n
 | [],_,_,_,h=>by cases h
 |(j,W)::r,i,V,I,h=>by
  obtain⟨J,R,U⟩:=I
  simp only[ZcD]at h
  cases C:Nat.beq i j with
  |true=>
   rw[C]at h
   cases h
   rw[Xam C]
   exact⟨J,R⟩
  |false=>
   rw[C]at h
   exact ZpO U h
theorem Zlg {F:Nat} {tm tm':TM} {hp hp':List SM} (f:Nat→Nat) (hF:F≤hp'.length) (ae: ∀j,j<F→f j=j) (hf: ∀j,j<hp'.length→f j<hp.length)
 (aa: ∀i j,i<hp'.length→j<hp'.length→f i=f j→i=j) (af:Zwy f hp'.length tm tm')
 (I: ∀j m,hp'[j]? =some m→m= .dead∨(hp[f j]? =some (rnM f m)∧ ∀id∈ZiL m,id<hp'.length)):Ent F tm hp tm' hp':=by
 refine⟨fun φ st ai hs=> ?_⟩
 have hlen:=hs.hp.len
 let ψ:Ph:=(List.range hp'.length).map fun j=>(φ[f j]?).getD none
 have C: ∀id,id<hp'.length→ψ[id]? =φ[f id]? :=by
  intro id hid
  have J:ψ[id]? =some ((φ[f id]?).getD none):=by
   simp only[ψ,Xa2,List.getElem?_range hid,Xak]
  have R:f id<φ.length:=by rw[hlen];exact hf id hid
  rw[J,Xac R]
  rfl
 refine⟨ψ,fun id hid=>by rw[C id (XaJ hid hF),ae id hid], ?_, ?_⟩
 ·intro i V hi
  obtain⟨J,R⟩:=ZpO af hi
  obtain⟨q,h3,h4⟩:=hs.tm i _ J
  exact⟨q,h3,Zq5 C V q R h4⟩
 ·refine⟨by simp[ψ], ?_, ?_⟩
  ·intro id sm o ab ho
   have hid:=(Xae.1 ab).1
   rw[C id hid]at ho
   rcases I id sm ab with rfl|⟨J,R⟩
   ·trivial
   ·exact Zzw C R (hs.hp.row _ _ _ J ho)
  ·intro id ad sm ag a ah J R h3 h4 h5 h6
   have hid:=(Xae.1 J).1
   have U:=(Xae.1 R).1
   rw[C id hid]at h5
   rw[C ad U]at h6
   have lv: ∀m:SM,live m=true→live (rnM f m)=true:=fun m hm=>by cases m<;>first|rfl|cases hm
   rcases I id sm J with rfl|⟨g1,_⟩
   ·cases h3
   ·rcases I ad ag R with rfl|⟨g2,_⟩
    ·cases h4
    ·exact hs.hp.inj _ _ _ _ a (fun e=>ah (aa _ _ hid U e)) g1 g2 (lv _ h3) (lv _ h4) h5 h6
open Go.Am
section
variable {P : Program} {h : Hints} {T : TypeId → TI} {hp : List SM} {tm : TM}
theorem Zfj: ∀e:CT,ceq e e=true
 | .i k=>by cases k<;>rfl
 | .b=>rfl
 | .s=>rfl
 | .any=>rfl
 | .l e=>Zfj e
 | .p a b=>by simp only[ceq,Zfj a,Zfj b,Bool.and_true]
def ZfZ:TK→Bool
 | .other=>true
 |_=>false
theorem Zng {t:TypeId} {id i r:Nat} {x:SV} {cs:List SV} {k:SV→List SM→Prop} (I:nth hp id=some (.cell cs true)) (J:(ZbH x&&Nat.beq (Zbf x).length (T t).sz)=true) (R:Nat.ble (r+(T t).sz) cs.length=true) (C:ZfZ (T t).k=false) (hi:i=0) (U:k (.tup []) (hp.set id (.cell (spl cs r (Zbf x)) true))):Zio T t hp (.ptr id i r) x k:=by
 simp only[Zio,J,I]
 refine⟨hi, ?_⟩
 rw[R]
 split
 ·rename_i j;rw[j]at C;cases C
 ·exact U
 ·rename_i j;exact(j rfl).elim
theorem ZqA {t:TypeId} {id i r:Nat} {cs:List SV} {V:SV} {m:Bool} {k:SV→Prop} (j:nth hp id=some (.cell cs m)) (C:ZgN (T t) cs r=some V) (hi:i=0) (I:k V):Zmm T t hp (.ptr id i r) k:=by
 simp only[Zmm,j]
 exact⟨hi,by rw[C];exact I⟩
theorem Ztw {t:TypeId} {id i r:Nat} {ct:CT} {l:List ct.D} {x:ct.D} {V:SV} {m:Bool} {k:SV→Prop} (j:nth hp id=some (.row ct l m)) (C:l[i]? =some x) (I:ZgN (T t) (ZcM ct x) r=some V) (J:k V):Zmm T t hp (.ptr id i r) k:=by
 simp only[Zmm,j]
 exact⟨x,C,by rw[I];exact J⟩
theorem Zqr {t:TypeId} {id i r:Nat} {x:SV} {ct:CT} {l:List ct.D} {y z:ct.D} {k:SV→List SM→Prop} (j:nth hp id=some (.row ct l true)) (C:(ZbH x&&Nat.beq (Zbf x).length (T t).sz)=true) (I:l[i]? =some y) (J:Nat.ble (r+(T t).sz) ct.w=true) (R:ZfZ (T t).k=false) (U:ZbW ct (spl (ZcM ct y) r (Zbf x))=some z) (hk:k (.tup []) (hp.set id (.row ct (l.set i z) true))):Zio T t hp (.ptr id i r) x k:=by
 simp only[Zio,C,j]
 refine⟨y,I, ?_⟩
 rw[J,U]
 generalize(T t).k=kk at*
 cases kk<;>first|(cases R;done)|exact hk
theorem Zxo {z id i n:Nat} {m:Option Nat} {j:Int} {ct:CT} {l:List ct.D} {b:Bool} {k:SV→Prop} (C:nth hp id=some (.row ct l b)) (I:Nat.beq ct.w z=true) (J:0≤j∧j<n) (R:k (.ptr id (i+j.toNat) 0)):ixT z hp (.ref id i n m) j k:=by
 simp only[ixT,C]
 rw[I]
 exact⟨J,R⟩
theorem Zvu {ct:CT} {id i n:Nat} {m:Option Nat} {l:List ct.D} {b:Bool} {k:List ct.D→Prop} (j:nth hp id=some (.row ct l b)) (C:i+n≤l.length) (I:k (sub l i n)):ZsW ct hp (.ref id i n m) k:=by
 simp only[ZsW,j]
 rw[dif_pos (Zfj ct)]
 exact⟨C,I⟩
theorem Zoy {ct:CT} {by_ id i n:Nat} {l:List ct.D} {x:ct.D} {r:List ct.D} {k:SV→List SM→Prop} (j:nth hp id=some (.row ct l true)) (C:i+n≤l.length) (I:(n+(r.length+1))*by_≤140737488355328) (J:k (.ref hp.length 0 (n+(r.length+1)) none) (hp.set id .dead++ [.row ct (sub l i n++x::r) true])):Zvs ct by_ hp (.ref id i n none) (x::r) k:=by
 simp only[Zvs,j]
 rw[dif_pos (Zfj ct)]
 exact⟨C,I,J⟩
theorem ZaP {op:Op} {t:TypeId} {id i r:Nat} {x:SV} {cs:List SV} {k:SV→List SM→Prop} {a b:Operand} (j:op= .store t a b) (C:evS tm a=some (.ptr id i r)) (I:evS tm b=some x) (J:nth hp id=some (.cell cs true)) (R:(ZbH x&&Nat.beq (Zbf x).length (T t).sz)=true) (U:Nat.ble (r+(T t).sz) cs.length=true) (h3:ZfZ (T t).k=false) (hi:i=0) (hk:k (.tup []) (hp.set id (.cell (spl cs r (Zbf x)) true))):opT P h T op tm hp k:=by
 simp only[j,opT,C,I]
 exact Zng J R U h3 hi hk
theorem ZbN {op:Op} {t:TypeId} {id i r:Nat} {cs:List SV} {V:SV} {m:Bool} {k:SV→List SM→Prop} {a:Operand} (j:op= .load t a) (C:evS tm a=some (.ptr id i r)) (I:nth hp id=some (.cell cs m)) (J:ZgN (T t) cs r=some V) (hi:i=0) (R:k V hp):opT P h T op tm hp k:=by
 simp only[j,opT,C]
 exact ZqA I J hi R
theorem ZaN {op:Op} {t:TypeId} {id i r:Nat} {ct:CT} {l:List ct.D} {x:ct.D} {V:SV} {m:Bool} {k:SV→List SM→Prop} {a:Operand} (j:op= .load t a) (C:evS tm a=some (.ptr id i r)) (I:nth hp id=some (.row ct l m)) (J:l[i]? =some x) (R:ZgN (T t) (ZcM ct x) r=some V) (U:k V hp):opT P h T op tm hp k:=by
 simp only[j,opT,C]
 exact Ztw I J R U
theorem ZbQ {op:Op} {t:TypeId} {id i r:Nat} {x:SV} {ct:CT} {l:List ct.D} {y z:ct.D} {k:SV→List SM→Prop} {a b:Operand} (j:op= .store t a b) (C:evS tm a=some (.ptr id i r)) (I:evS tm b=some x) (J:nth hp id=some (.row ct l true)) (R:(ZbH x&&Nat.beq (Zbf x).length (T t).sz)=true) (U:l[i]? =some y) (h2:Nat.ble (r+(T t).sz) ct.w=true) (h3:ZfZ (T t).k=false) (h4:ZbW ct (spl (ZcM ct y) r (Zbf x))=some z) (hk:k (.tup []) (hp.set id (.row ct (l.set i z) true))):opT P h T op tm hp k:=by
 simp only[j,opT,C,I]
 exact Zqr J R U h2 h3 h4 hk
variable {F N : Nat} {ls : List Nat} {o : Oper} {l : List Oper} {i dd : Nat} {ks : List (Nat × Nat × Bool)} {kk : TM → List SM → Prop} {V : SV}
theorem ZgW {c:Cx} {id j:Nat} {I:List Nat} {ops:Array Oper} {J:Bool} {k:Ex→TM→List SM→Prop} (R:h.light c.fid id=j::I) (U:noG ops.toList=true) (hk:ZaW P h T c.N (j::I) ops.toList 0 [] tm hp fun tm' hp'=>k .normal tm' hp') (C:h.perm c.fid id=[]:=by rfl):wp P h T F c (.region id ops J) tm hp k:=by
 simp only[wp,wpR,C,R,U]
 exact hk
theorem Zg2 {c:Cx} {id i j:Nat} {r I:List Nat} {ops:Array Oper} {os:List Oper} {J:Bool} {k:Ex→TM→List SM→Prop} (C:h.perm c.fid id=i::r) (R:h.light c.fid id=j::I) (U:Zhk (i::r) ops (i::r)=os) (hg:noG os=true) (hk:ZaW P h T c.N (j::I) os 0 [] tm hp fun tm' hp'=>k .normal tm' hp'):wp P h T F c (.region id ops J) tm hp k:=by
 have e:(rgo (i::r) ops).toList=os:=U
 simp only[wp,wpR,C,R,e,hg]
 exact hk
theorem ZwA (j:kk tm hp):ZaW P h T N ls [] i ks tm hp kk:=j
theorem Zif {x:Operand} (hi:has i ls=true) (j:o.op= .move x) (C:evS tm x=some V) (I:o.dst=some dd) (hN:Nat.ble (dd+1) N=true) (J:ZaW P h T N ls l (i+1) ks ((dd,V)::tm) hp kk):ZaW P h T N ls (o::l) i ks tm hp kk:=by
 simp only[ZaW,hi,j,opT,C,Zdj,I,hN]
 exact J
theorem ZeJ (hi:has i ls=false) (hw:isW h o=false) (j:opT P h T o.op tm hp fun V hp'=>Zdj N o.dst V tm fun tm'=>ZaW P h T N ls l (i+1) ks tm' hp' kk):ZaW P h T N ls (o::l) i ks tm hp kk:=by
 simp only[ZaW,hi,ZqJ,hw]
 split
 ·exact j
 ·exact j
theorem Zup (hi:has i ls=false) (j:ZqJ h o ks=[]) (C:opT P h T o.op tm hp fun V hp'=>Zdj N o.dst V tm fun tm'=>ZaW P h T N ls l (i+1) [] tm' hp' kk):ZaW P h T N ls (o::l) i ks tm hp kk:=by
 simp only[ZaW,hi,j]
 exact C
theorem Zlx {c:TM→Prop} {dst:Option Tmp} (j:dst=some dd) (hN:Nat.ble (dd+1) N=true) (C:c ((dd,V)::tm)):Zdj N dst V tm c:=by
 simp only[Zdj,j,hN]
 exact C
theorem ZaC {c:TM→Prop} {dst:Option Tmp} (j:dst=none) (C:c tm):Zdj N dst V tm c:=by
 simp only[Zdj,j]
 exact C
variable {op : Op} {dst : Option Tmp} {c : TM → List SM → Prop}
theorem opv (he: ∀k,opT P h T op tm hp k=k V hp) (j:dst=some dd) (hN:Nat.ble (dd+1) N=true) (C:c ((dd,V)::tm) hp):opT P h T op tm hp fun V hp'=>Zdj N dst V tm fun tm'=>c tm' hp':=by
 rw[he]
 simp only[Zdj,j,hN]
 exact C
theorem opm {hp':List SM} (he: ∀k,opT P h T op tm hp k=k V hp') (j:dst=some dd) (hN:Nat.ble (dd+1) N=true) (C:c ((dd,V)::tm) hp'):opT P h T op tm hp fun V hp'=>Zdj N dst V tm fun tm'=>c tm' hp':=by
 rw[he]
 simp only[Zdj,j,hN]
 exact C
theorem opc {C:Prop} (he: ∀k,opT P h T op tm hp k=(C∧k V hp)) (j:C) (I:dst=some dd) (hN:Nat.ble (dd+1) N=true) (J:c ((dd,V)::tm) hp):opT P h T op tm hp fun V hp'=>Zdj N dst V tm fun tm'=>c tm' hp':=by
 rw[he]
 simp only[Zdj,I,hN]
 exact⟨j,J⟩
theorem Zj5 {ds:List (Option Tmp)} {hp':List SM} (e:hp=hp') (j:wpOps P h T N ds l tm hp' kk):wpOps P h T N ds l tm hp kk:=e▸j
def Zqz (p:Nat):List Nat→Bool
 | []=>true
 |i::r=>Nat.ble (i+1) p&&Zqz p r
theorem Ze5 {p id:Nat}: ∀ {l:List Nat},Zqz p l=true→id∈l→id<p
 |i::r,h,hm=>by
  simp only[Zqz,Xag]at h
  rcases Xav.1 hm with rfl|hm
  ·exact Xal h.1
  ·exact Ze5 h.2 hm
def ZA6 (p:Nat) (tm:TM):TM→Prop
 | []=>True
 |(i,V')::r=>ZcD i tm=some V'∧Zqz p (Zdt V')=true∧ZA6 p tm r
mutual
theorem Zv1 {f:Nat→Nat} {p:Nat} (I: ∀j,j<p→f j=j): ∀V:SV,(∀id∈Zdt V,id<p)→rnV f V=V
 | .ref id i n m,C=>by rw[rnV,I id (C id (by simp[Zdt]))]
 | .ptr id i r,C=>by rw[rnV,I id (C id (by simp[Zdt]))]
 | .func g a c,C=>by
  simp only[Zdt,XaA]at C
  rw[rnV,rnL_id I a (fun id hi=>C id (.inl hi)),rnL_id I c (fun id hi=>C id (.inr hi))]
 | .agg cs,C=>by rw[rnV,rnL_id I cs (by simpa only[Zdt]using C)]
 | .tup cs,C=>by rw[rnV,rnL_id I cs (by simpa only[Zdt]using C)]
 | .v _ _,_| .nilp,_| .nils,_| .nilf,_| .nili,_| .nilmp,_| .box _ _ _,_=>rfl
 | .mp id,C=>by rw[rnV,I id (C id (by simp[Zdt]))]
theorem rnL_id {f:Nat→Nat} {p:Nat} (I: ∀j,j<p→f j=j): ∀l:List SV,(∀id∈rchL l,id<p)→rnL f l=l
 | [],_=>rfl
 |V::r,C=>by
  simp only[rchL,XaA]at C
  rw[rnL,Zv1 I V (fun id hi=>C id (.inl hi)),rnL_id I r (fun id hi=>C id (.inr hi))]
end
theorem Zwx {f:Nat→Nat} {p:Nat} (I: ∀j,j<p→f j=j) (m:SM) (J: ∀id∈ZiL m,id<p):rnM f m=m:=by
 cases m with
 |row t l b=>rfl
 |cell cs b=>rw[rnM,rnL_id I cs (by simpa only[ZiL]using J)]
 |many ct C b=>rw[rnM,rnL_id I C (by simpa only[ZiL]using J)]
 |set ks=>rfl
 |dead=>rfl
theorem Zmh {f:Nat→Nat} {p n:Nat} (C: ∀j,j<p→f j=j) (I:p≤n) {tm:TM}: ∀ {tm':TM},ZA6 p tm tm'→Zwy f n tm tm'
 | [],_=>trivial
 |(i,V')::r,⟨R,J,U⟩=>⟨by rw[Zv1 C V' fun id hi=>Ze5 J hi];exact R,fun id hi=>XaJ (Ze5 J hi) I,Zmh C I U⟩
theorem Zwq {t:TypeId} {x y:Operand} {ct:CT} {xs:List ct.D} {α:Type} {A:Prop} {C:α→Prop} {W:α→SV} {z:α} (hi:has i ls=true) (j:o.op= .indexAddr t x y) (I:evS tm x=some (.v (.l ct) xs)) (he: ∀k,opT P h T (.indexAddr t x y) tm hp k= ∃z,A∧C z∧k (W z) hp) (J:A) (R:C z) (U:o.dst=some dd) (hN:Nat.ble (dd+1) N=true) (hk:ZaW P h T N ls l (i+1) ks ((dd,W z)::tm) hp kk):ZaW P h T N ls (o::l) i ks tm hp kk:=by
 simp only[ZaW,hi,j,I,he,Zdj,U,hN]
 exact⟨z,J,R,hk⟩
theorem Zwg {t:TypeId} {x:Operand} {ct:CT} {y:ct.D} {r:Nat} (hi:has i ls=true) (j:o.op= .load t x) (C:evS tm x=some (.box ct y r)) (he: ∀k,opT P h T (.load t x) tm hp k=k V hp) (I:o.dst=some dd) (hN:Nat.ble (dd+1) N=true) (J:ZaW P h T N ls l (i+1) ks ((dd,V)::tm) hp kk):ZaW P h T N ls (o::l) i ks tm hp kk:=by
 simp only[ZaW,hi,j,C,he,Zdj,I,hN]
 exact J
def Zz5 (tm:TM):TM→Prop
 | []=>True
 |(i,V')::r=>ZcD i tm=some V'∧Zz5 tm r
theorem ZkH {tm:TM}: ∀ {tm':TM} {i:Nat} {V:SV},Zz5 tm tm'→ZcD i tm'=some V→ZcD i tm=some V
 | [],_,_,_,h=>by cases h
 |(j,W)::r,i,V,I,h=>by
  simp only[ZcD]at h
  cases C:Nat.beq i j with
  |true=>rw[C]at h;cases h;rw[Xam C];exact I.1
  |false=>rw[C]at h;exact ZkH I.2 h
theorem Zaq {F:Nat} {tm tm':TM} (j:Zz5 tm tm'):Ent F tm hp tm' hp:=
 ⟨fun φ st _ C=>⟨φ,Fr.refl F φ,fun i V hi=>C.tm i V (ZkH j hi),C.hp⟩⟩
theorem Ent.trans {F:Nat} {tm tm1 j:TM} {hp hp1 C:List SM} (U:Ent F tm hp tm1 hp1) (h2:Ent F tm1 hp1 j C):Ent F tm hp j C:=by
 refine⟨fun φ st R hs=> ?_⟩
 obtain⟨I,g1,g2⟩:=U.out φ st R hs
 obtain⟨J,g3,g4⟩:=h2.out I st (by
  cases F with
  |zero=>exact Xao _
  |succ n=>
   have e:=g1 n (Nat.lt_succ_self n)
   rw[Xac (show n<φ.length from R)]at e
   exact(Xae.1 e).1) g2
 exact⟨J,g1.trans g3,g4⟩
theorem Zbz {tm tm':TM} (C:ZA6 0 tm tm'):Ent 0 tm hp tm' []:=by
 refine Zlg id (Xan 0) (fun _ _=>rfl) (fun j I=>absurd I (Nat.not_lt_zero j)) (fun i j hi=>absurd hi (Nat.not_lt_zero i)) (Zmh (fun _ _=>rfl) (Xan 0) C) fun j m hm=> ?_
 simp at hm
structure CodeOK (P:Program) (h:Hints) (F:Nat) (c:Cx) (b:Code) (tm:TM) (hp:List SM) (k:Ex→TM→List SM→Prop):Prop where
 out: ∀φ st,F≤φ.length→SRep φ tm hp st→ ∃e st' φ' tm' hp',exS P h (lim P h) c b st=some (e,st')∧Fr F φ φ'∧SRep φ' tm' hp' st'∧k e tm' hp'
theorem Zbs (j:TysOK P T) {c:Cx} {b:Code} {k:Ex→TM→List SM→Prop} (hw:wp P h T F c b tm hp k):CodeOK P h F c b tm hp k:=⟨fun φ st C I=>ZkR j c b tm hp k φ st hw C I⟩
theorem Za3 {c:Cx} {a b:Code} {k:Ex→TM→List SM→Prop} (hw:CodeOK P h F c a tm hp (Zx4 k fun tm' hp'=>CodeOK P h F c b tm' hp' k)):CodeOK P h F c (.seq a b) tm hp k:=by
 refine⟨fun φ st hF hs=> ?_⟩
 obtain⟨e,C,I,tm1,hp1,R,J,U,h4⟩:=hw.out φ st hF hs
 cases e with
 |normal=>
  obtain⟨e,aa,φ',tm',hp',g1,g2,g3,g4⟩:=CodeOK.out h4 I C (J.len hF) U
  exact⟨e,aa,φ',tm',hp',by simp only[exS,R,Xab,Zfw,g1],J.trans g2,g3,g4⟩
 |exit j=>exact⟨_,C,I,tm1,hp1,by simp only[exS,R,Xab,Zfw],J,U,h4⟩
 |ret=>exact⟨_,C,I,tm1,hp1,by simp only[exS,R,Xab,Zfw],J,U,h4⟩
theorem CodeOK.ent {c:Cx} {b:Code} {k:Ex→TM→List SM→Prop} {tm':TM} {hp':List SM} (R:CodeOK P h F c b tm' hp' k) (he:Ent F tm hp tm' hp'):CodeOK P h F c b tm hp k:=
 ⟨fun φ st I U=>by
  obtain⟨j,J,h2⟩:=he.out φ st I U
  obtain⟨e,C,φ',tm',hp',f1,f2,f3,f4⟩:=R.out j st (J.len I) h2
  exact⟨e,C,φ',tm',hp',f1,J.trans f2,f3,f4⟩⟩
def ZeN:Nat→Code→Code
 |0,c=>c
 |n+1, .seq _ b=>ZeN n b
 |_,c=>c
theorem ZaB {a b:Operand} {t e:TypeId} {kk:IntKind} {j:Int} {id i n:Nat} {o:Option Nat} {ct:CT} {l:List ct.D} {I:Bool} {k:SV→List SM→Prop} (J:op= .indexAddr t a b) (R:evS tm a=some (.ref id i n o)) (U:evS tm b=some (.v (.i kk) j)) (C:(T t).k= .slice e) (h3:ZfZ (T e).k=false) (hn:nth hp id=some (.row ct l I)) (hz:Nat.beq ct.w (T e).sz=true) (hj:0≤j∧j<n) (hk:k (.ptr id (i+j.toNat) 0) hp):opT P h T op tm hp k:=by
 subst J
 simp only[opT,R,U,Zfb,C]
 generalize aa:(T e).k=q at*
 cases q<;>first|(cases h3;done)|exact Zxo hn hz hj hk
end
theorem ZBA {p q:Prop} (h:q) (k:q→p:=by
 intro h
 repeat (first|refine ZiQ ?_|refine Zgv ?_|refine ZdW ?_)
 first|((repeat first|with_reducible refine ZaX ?_|((with_reducible refine ZeR ?_ ?_);rfl));exact ZgW rfl rfl h)|exact ZaX (ZgW rfl rfl h)|exact ZaX (ZaX (ZgW rfl rfl h))):p:=k h
theorem ZBy {p q:Prop} (h:q) (k:q→p:=by
 intro h
 repeat (first|refine ZiQ ?_|refine Zgv ?_|refine ZdW ?_)
 first|((repeat first|with_reducible refine ZaX ?_|((with_reducible refine ZeR ?_ ?_);rfl));exact Zg2 rfl rfl rfl rfl h)|exact ZaX (Zg2 rfl rfl rfl rfl h)|exact ZaX (ZaX (Zg2 rfl rfl rfl rfl h))):p:=k h
theorem ZBt {p q:Prop} (h:q) (k:q→p:=by
 intro h
 refine ZwA ?_
 repeat (first|refine Zgv ?_|refine ZdW ?_)
 exact h):p:=k h
open Go.Am
section
variable {P : Program} {h : Hints} {T : TypeId → TI} {hp : List SM} {tm : TM}
mutual
theorem Zyx {f:Nat→Nat}: ∀V:SV,(∀id∈Zdt V,f id=id)→rnV f V=V
 | .ref id i n m,j=>by rw[rnV,j id (by simp[Zdt])]
 | .ptr id i r,j=>by rw[rnV,j id (by simp[Zdt])]
 | .func g a c,j=>by
  simp only[Zdt,XaA]at j
  rw[rnV,rnL_ok a (fun id hi=>j id (.inl hi)),rnL_ok c (fun id hi=>j id (.inr hi))]
 | .agg cs,j=>by rw[rnV,rnL_ok cs (by simpa only[Zdt]using j)]
 | .tup cs,j=>by rw[rnV,rnL_ok cs (by simpa only[Zdt]using j)]
 | .v _ _,_| .nilp,_| .nils,_| .nilf,_| .nili,_| .nilmp,_| .box _ _ _,_=>rfl
 | .mp id,j=>by rw[rnV,j id (by simp[Zdt])]
theorem rnL_ok {f:Nat→Nat}: ∀l:List SV,(∀id∈rchL l,f id=id)→rnL f l=l
 | [],_=>rfl
 |v::r,j=>by
  simp only[rchL,XaA]at j
  rw[rnL,Zyx v (fun id hi=>j id (.inl hi)),rnL_ok r (fun id hi=>j id (.inr hi))]
end
def swI (a b j:Nat):Nat:=if j=a then b else if j=b then a else j
end
open Go.Am
section
variable {P : Program} {h : Hints} {T : TypeId → TI} {hp : List SM} {tm : TM} {F : Nat}
theorem ZuP {σ:Type} {c:Cx} {b:Code} {k:Ex→TM→List SM→Prop} (hk:h.keep c.fid (Zdy b)=none) (U:σ→TM) (aa:σ→List SM) (Inv:σ→Prop) (I:σ→Nat)
 (round: ∀a,Inv a→CodeOK P h F c b (U a) (aa a) (ZqS F U aa Inv I a k)) (a:σ) (hi:Inv a) (he:Ent F tm hp (U a) (aa a)):LoopOK P h F c b tm hp k:=by
 have main: ∀ (n:Nat) (a:σ),I a=n→Inv a→ ∀φ st,F≤φ.length→SRep φ (U a) (aa a) st→ ∃e C φ' tm' hp',(lim P h).ex c (.loop b) st=some (e,C)∧Fr F φ φ'∧SRep φ' tm' hp' C∧k e tm' hp':=by
  intro n
  induction n using Nat.strongRecOn with
  |_ n ih=>
   intro a hm hi φ st hF hs
   obtain⟨e,J,R,tm1,hp1,h1,h2,h3,h4⟩:=(round a hi).out φ st hF hs
   have hr:Zhr P h (lim P h) c b st=some (e,J):=by unfold Zhr;rw[hk];exact h1
   cases e with
   |normal=>
    obtain⟨a',g1,g2,g3⟩:=h4
    obtain⟨ab,g4,g5⟩:=g3.out R J (h2.len hF) h3
    obtain⟨e,C,φ',tm',hp',f1,f2,f3,f4⟩:=ih (I a') (by omega) a' rfl g1 ab J (g4.len (h2.len hF)) g5
    exact⟨e,C,φ',tm',hp',Zl0 hr f1,(h2.trans g4).trans f2,f3,f4⟩
   |exit j=>exact⟨_,J,R,tm1,hp1,Zf6 (by simp) hr,h2,h3,h4⟩
   |ret=>exact⟨_,J,R,tm1,hp1,Zf6 (by simp) hr,h2,h3,h4⟩
 refine⟨fun φ st hF hs=> ?_⟩
 obtain⟨R,h1,h2⟩:=he.out φ st hF hs
 obtain⟨e,C,φ',tm',hp',f1,f2,f3,f4⟩:=main _ a rfl hi R st (h1.len hF) h2
 exact⟨e,C,φ',tm',hp',f1,h1.trans f2,f3,f4⟩
theorem Zs4 {c:Cx} {id:Nat} {b:Code} {k:Ex→TM→List SM→Prop} (hk:h.keepB c.fid id=none) (hb:CodeOK P h F c b tm hp (ZsD id k)):CodeOK P h F c (.block id b) tm hp k:=by
 refine⟨fun φ st hF hs=> ?_⟩
 obtain⟨e,C,I,tm1,hp1,U,h2,h3,R⟩:=hb.out φ st hF hs
 cases e with
 |normal=>exact⟨.normal,C,I,tm1,hp1,by simp only[exS,U,Xab,Zc7,hk,ZeI,Xak],h2,h3,R⟩
 |exit j=>
  simp only[ZsD]at R
  split at R
  ·rename_i J
   have J:=Xam J
   exact⟨.normal,C,I,tm1,hp1,by simp only[exS,U,Xab,Zc7,hk,ZeI,Xak,if_pos J],h2,h3,R⟩
  ·rename_i J
   have J:j≠id:=fun e=>by subst e;simp at J
   exact⟨.exit j,C,I,tm1,hp1,by simp only[exS,U,Xab,Zc7,if_neg J],h2,h3,R⟩
 |ret=>exact⟨.ret,C,I,tm1,hp1,by simp only[exS,U,Xab,Zc7],h2,h3,R⟩
theorem CodeOK.mono {c:Cx} {b:Code} {k C:Ex→TM→List SM→Prop} (I:CodeOK P h F c b tm hp k) (J: ∀e tm hp,k e tm hp→C e tm hp):CodeOK P h F c b tm hp C:=
 ⟨fun φ st R U=>by
  obtain⟨e,j,φ',tm',hp',f1,f2,f3,f4⟩:=I.out φ st R U
  exact⟨e,j,φ',tm',hp',f1,f2,f3,J _ _ _ f4⟩⟩
theorem Ze1 {op:Op} {ct:CT} {by_ id n j:Nat} {m2:Option Nat} {b:Bool} {l:List ct.D} {x:ct.D} {k:SV→List SM→Prop}
 {c:Call} {t t2 e e2:TypeId} {ts:List TypeId} (ho:op= .call c) (hc:c.callee= .builtin .append) (ha:evL tm c.args.toList=some [.ref id 0 n none, .ref j 0 1 m2]) (ht:c.argTypes.toList=t::t2::ts) (I:(T t).k= .slice e) (J:(T t2).k= .slice e2) (R:(T e).ct=some ct) (U:(T e).by_=by_) (C:(ZfZ (T e).k,Nat.ble 1 (T e).by_&&Nat.ble 1 (T e).sz,h.frz t)=(false,true,false))
 (hn:nth hp id=some (.row ct l true)) (aa:nth hp j=some (.row ct [x] b)) (hl:n=l.length) (hz:(n+1)*by_≤140737488355328)
 (hk:k (.ref hp.length 0 (n+1) none) (hp.set id .dead++ [.row ct (l++ [x]) true])):opT P h T op tm hp k:=by
 have hg:ZsW ct hp (.ref j 0 1 m2) (fun new=>Zvs ct by_ hp (.ref id 0 n none) new k):=by
  refine Zvu aa (Xan 1) ?_
  refine Zoy hn (by rw[hl];omega) hz ?_
  have e1:sub l 0 n=l:=by rw[sub,XaB,Xay (by omega)]
  have e2:sub [x] 0 1=[x]:=rfl
  rw[e1]
  exact hk
 simp only[Prod.mk.injEq]at C
 obtain⟨ab,ad,ae⟩:=C
 simp only[ho,opT,Zn1,ha,hc,Zi5,ht,I,J,R,ad,ae]
 subst U
 generalize(T e).k=kk at*
 cases kk<;>first|(cases ab;done)|exact hg
theorem ZcA {t:CT} {x:t.D} {n:Nat}: ∀id∈Zdt (.v t x),id<n:=fun _ h=>absurd h XaU
theorem Zgk {i a l n:Nat} {o:Option Nat} (h:i<n): ∀id∈Zdt (.ref i a l o),id<n:=fun id hid=>by rw[Xat.1 hid];exact h
theorem ZbG {i a l n:Nat} (h:i<n): ∀id∈Zdt (.ptr i a l),id<n:=fun id hid=>by rw[Xat.1 hid];exact h
end
open Go.Am
section
variable {P : Program} {h : Hints} {T : TypeId → TI} {hp : List SM} {tm : TM} {F : Nat}
theorem ZaR {c:Cx} {k:Ex→TM→List SM→Prop} (j:k .ret tm hp):wp P h T F c .ret tm hp k:=j
theorem ZaF {k:Ex→TM→List SM→Prop} {n:TM→List SM→Prop} (j:k .ret tm hp):Zx4 k n .ret tm hp:=j
theorem ZaG {id:Nat} {k:Ex→TM→List SM→Prop} (j:k .ret tm hp):ZsD id k .ret tm hp:=j
theorem Zaz {σ:Type} {C:σ→TM} {I:σ→List SM} {Inv:σ→Prop} {j:σ→Nat} {a:σ} {k:Ex→TM→List SM→Prop} (J:k .ret tm hp):ZqS F C I Inv j a k .ret tm hp:=J
theorem ZvC {c:Cx} {j:TM→List SM→Prop} {id:Nat} {k:Ex→TM→List SM→Prop} (C:k .normal tm hp):wp P h T F c (.exit id) tm hp (Zx4 (ZsD id k) j):=by
 show ZsD id k (.exit id) tm hp
 have e:Nat.beq id id=true:=Nat.beq_refl id
 simp only[ZsD,e]
 exact C
theorem ZpP {α:Type} {l:List α} {n:Nat} {x:α} (h:nth l n=some x):n<l.length:=by
 rw[Za5]at h;exact(Xae.1 h).1
theorem Zmd {α:Type} {l:List α} {i n:Nat} {x:α} (h:i≠n):nth (l.set i x) n=nth l n:=by rw[Za5,Za5,XaD h]
theorem Zyj {id j:Nat} (h:id≠j):nth (frz1 hp id) j=nth hp j:=by
 unfold frz1
 split<;>first|rfl|exact Zmd h
theorem Znq {j:Nat}: ∀ {ids:List Nat} {hp:List SM},j ∉ ids→nth (frzT hp ids) j=nth hp j
 | [],_,_=>rfl
 |i::r,hp,h=>by
  rw[frzT,Znq fun C=>h (Xai _ C)]
  exact Zyj fun e=>h (by rw[e];exact Xah)
theorem ZuC {id:Nat}:(frz1 hp id).length=hp.length:=by
 unfold frz1
 split<;>first|rfl|exact XaN
theorem ZkB: ∀ {ids:List Nat} {hp:List SM},(frzT hp ids).length=hp.length
 | [],_=>rfl
 |i::r,hp=>by rw[frzT,ZkB,ZuC]
theorem ZyC {ct:CT} {xs:List ct.D} {kk:List ct.D→Prop} (h:kk xs):ZsW ct hp (.v (.l ct) xs) kk:=by
 simp only[ZsW]
 rw[dif_pos (Zfj ct)]
 exact h
theorem Zer {op:Op} {ct:CT} {by_ id n:Nat} {X:SV} {l:List ct.D} {x:ct.D} {k:SV→List SM→Prop}
 {c:Call} {t t2 e e2:TypeId} {ts:List TypeId} (ho:op= .call c) (hc:c.callee= .builtin .append) (ha:evL tm c.args.toList=some [.ref id 0 n none,X]) (ht:c.argTypes.toList=t::t2::ts) (J:(T t).k= .slice e) (R:(T t2).k= .slice e2) (U:(T e).ct=some ct) (aa:(T e).by_=by_) (I:(ZfZ (T e).k,Nat.ble 1 (T e).by_&&Nat.ble 1 (T e).sz,h.frz t)=(false,true,true))
 (hX: ∀kk:SV→Prop,kk (.v (.l ct) [x])→Zjq hp 40 X kk) (ab:id ∉ Zh7 hp 40 X) (hn:nth hp id=some (.row ct l true)) (hl:n=l.length) (hz:(n+1)*by_≤140737488355328)
 (hk: ∀C hp',nth hp' C=some (.row ct (l++ [x]) true)→(∀j,j≠id→j ∉ Zh7 hp 40 X→j<hp.length→nth hp' j=nth hp j)→hp.length≤C→k (.ref C 0 (n+1) none) hp'):opT P h T op tm hp k:=by
 have hg:Zjq hp 40 X fun V=>ZsW ct [] V fun new=>Zvs ct by_ (frzT hp (Zh7 hp 40 X)) (.ref id 0 n none) new k:=by
  refine hX _ (ZyC ?_)
  refine Zoy (by rw[Znq ab];exact hn) (by rw[hl];omega) hz ?_
  have e1:sub l 0 n=l:=by rw[sub,XaB,Xay (by omega)]
  rw[e1]
  refine hk _ _ ?_ (fun j hj ad ae=> ?_) (by rw[ZkB];exact Xan _)
  ·rw[Za5,XaE (by rw[XaN];exact Xan _),XaN,Nat.sub_self];rfl
  ·rw[Za5,Xar (by rw[XaN,ZkB];exact ae),XaD (fun e=>hj e.symm),←Za5,Znq ad]
 simp only[Prod.mk.injEq]at I
 obtain⟨af,ag,ah⟩:=I
 simp only[ho,opT,Zn1,ha,hc,Zi5,ht,J,R,U,ag,ah]
 subst aa
 generalize(T e).k=kk at*
 cases kk<;>first|(cases af;done)|exact hg
theorem Zne {op:Op} {c:Call} {f:FuncId} {V:SV} {k:SV→List SM→Prop} (j:op= .call c) (C:c.callee= .value (.func f)) (I:evL tm c.args.toList=some [V]) (J:h.opn f=false) (R:h.imp f=false) (U:h.mem f=false) (he:Zjq hp 40 V fun v=>PureOK P h f [v] fun W=>match ZsJ W with|true=>k W hp|false=>False):opT P h T op tm hp k:=by
 subst j
 simp only[opT,Zn1,I,C,Ze8,J,R,U,ZAe,ZgF]
 exact he
variable {N i dd : Nat} {ls : List Nat} {l : List Oper} {o : Oper} {ks : List (Nat × Nat × Bool)} {kk : TM → List SM → Prop} {V : SV}
theorem ZxT {bo:BinOp} {t j:TypeId} {x y:Operand} (hi:has i ls=true) (C:o.op= .binOp bo t x y j) (he:opT P h T (.binOp bo t x y j) tm hp fun W hp'=>Zdj N o.dst W tm fun tm'=>ZaW P h T N ls l (i+1) ks tm' hp' kk):ZaW P h T N ls (o::l) i ks tm hp kk:=by
 simp only[ZaW,hi,C]
 exact he
end
open Go.Am
section
variable {P : Program} {h : Hints} {T : TypeId → TI} {hp : List SM} {tm : TM} {N i : Nat} {ls : List Nat} {l : List Oper} {o : Oper} {ks : List (Nat × Nat × Bool)} {kk : TM → List SM → Prop} {V : SV}
def Zsi (hp:List SM):List Nat→List SM→Prop
 | [],[]=>True
 |i::is,m::ms=>nth hp i=some m∧ZiL m=[]∧Zsi hp is ms
 |_,_=>False
theorem Zrb: ∀ {is:List Nat} {ms:List SM},Zsi hp is ms→is.length=ms.length∧ ∀ (j:Nat) (x:SM),ms[j]? =some x→ ∃i,is[j]? =some i∧nth hp i=some x∧ZiL x=[]
 | [],[],_=>⟨rfl,fun j x h=>by simp at h⟩
 | [],_::_,h=>h.elim
 |_::_,[],h=>h.elim
 |i::is,m::ms,⟨I,J,R⟩=>by
  obtain⟨g1,g2⟩:=Zrb R
  refine⟨by simp[g1],fun j x C=> ?_⟩
  cases j with
  |zero=>cases C;exact⟨i,rfl,I,J⟩
  |succ j=>exact g2 j x C
theorem Zla: ∀ {l:List Nat} {a b x:Nat},l.Nodup→l[a]? =some x→l[b]? =some x→a=b
 | [],_,_,_,_,h,_=>by simp at h
 |i::r,0,0,_,_,_,_=>rfl
 |i::r,0,b+1,x,I,j,C=>by
  cases j
  rw[Xbp]at C
  exact absurd (XaI C) (List.nodup_cons.1 I).1
 |i::r,a+1,0,x,I,j,C=>by
  cases C
  rw[Xbp]at j
  exact absurd (XaI j) (List.nodup_cons.1 I).1
 |i::r,a+1,b+1,x,I,j,C=>congrArg (· +1) (Zla (l:=r) (List.nodup_cons.1 I).2 j C)
theorem Zvg {tm':TM} (is:List Nat) {ms:List SM} (hk:Zsi hp is ms) (R:is.Nodup) (U:Zwy (fun j=>is.getD j 0) ms.length tm tm'):Ent 0 tm hp tm' ms:=by
 obtain⟨hl,aa⟩:=Zrb hk
 have C: ∀j,j<ms.length→ ∃x i,ms[j]? =some x∧is[j]? =some i∧is.getD j 0=i∧nth hp i=some x∧ZiL x=[]:=fun j I=>by
  obtain⟨i,g1,g2,g3⟩:=aa j ms[j] (Xac I)
  exact⟨ms[j],i,Xac I,g1,by rw[Xa1,g1];rfl,g2,g3⟩
 refine Zlg (fun j=>is.getD j 0) (Xao _) (fun j I=>absurd I (Nat.not_lt_zero j)) (fun j I=> ?_) (fun a b ha hb J=> ?_) U fun j x hx=> ?_
 ·obtain⟨x,i,_,_,g3,g4,_⟩:=C j I
  show is.getD j 0<_
  rw[g3]
  exact ZpP g4
 ·obtain⟨_,i,_,g2,g3,_⟩:=C a ha
  obtain⟨_,i',_,ab,ad,_⟩:=C b hb
  have J:is.getD a 0=is.getD b 0:=J
  rw[g3,ad]at J
  subst J
  exact Zla R g2 ab
 ·obtain⟨I,_⟩:=Xae.1 hx
  obtain⟨y,i,g1,_,g3,g4,g5⟩:=C j I
  rw[g1]at hx
  cases hx
  refine .inr ⟨?_,fun id hid=>by rw[g5]at hid;exact absurd hid XaU⟩
  show hp[is.getD j 0]? =_
  rw[g3,←Za5,g4,Zwx (p:=0) (fun j I=>absurd I (Nat.not_lt_zero j)) x (fun id hid=>by rw[g5]at hid;exact absurd hid XaU)]
theorem Zz2 {op:Op} {t:TypeId} {x j:Operand} {id:Nat} {s:List UInt8} {ks:List (List UInt8)} {k:SV→List SM→Prop} (I:op= .lookup t x j false) (C:(T t).k= .smap) (J:evS tm x=some (.mp id)) (R:evS tm j=some (.v .s s)) (U:nth hp id=some (.set ks)) (hk:k (.v .b (Zq0 s ks)) hp):opT P h T op tm hp k:=by
 simp only[I,opT,C,J,R,U]
 exact hk
theorem ZBn {op:Op} {t:TypeId} {m j x:Operand} {id:Nat} {s:List UInt8} {ks:List (List UInt8)} {k:SV→List SM→Prop} (I:op= .mapUpdate t m j x) (C:(T t).k= .smap) (hm:evS tm m=some (.mp id)) (J:evS tm j=some (.v .s s)) (R:evS tm x=some (.v .b true)) (U:nth hp id=some (.set ks)) (hk:k (.tup []) (hp.set id (.set (ZuE s ks)))):opT P h T op tm hp k:=by
 simp only[I,opT,C,hm,J,R,U]
 exact hk
theorem ZkQ {s:List UInt8}: ∀ {ks:List (List UInt8)},Zq0 s ks=false→ZuE s ks=ks++ [s]
 | [],_=>rfl
 |k::r,h=>by
  rw[Zq0]at h
  rw[ZuE]
  cases j:(s==k)with
  |true=>rw[j]at h;cases h
  |false=>rw[j]at h;rw[cond_false,ZkQ h];rfl
end
end Go.Tx
namespace Go.Proofs.YtapbiodcncnnfaaGreatDoor
open Go.Am Go.Tx
theorem ZcE {α:Type} {l:List α} {n:Nat} (h:l.length=n):sub l 0 n=l:=by
 rw[sub,XaB,Xay (by omega)]
abbrev nt (k:Nat):SV:= .v (.i .i64) (k:Int)
theorem cin {i n:Nat} (h:i<n):(0:Int)≤(i:Int)∧(i:Int)<((n:Nat):Int):=by omega
theorem Zca {k:Nat} (h:k<1000000):IntKind.i64.wrap ((k:Int)+1)=((k+1:Nat):Int):=Zan (by omega) (by omega)
open Go.Am Go.Tx Ne
theorem Zxy (l:List Txt) (s:Txt) (U:l.length≤1000):PureOK Tryz.prog Zao 81 [.v (.l .s) l, .v .s s] (fun V=>V= .v (.i .i64) (ZcZ s l 0)):=by
 refine Zai Zag Tryz.func81 ?_
 refine Zae ?_
 refine Zac ?_
 refine Zaf ?_
 refine Zae ?_
 iterate 3 refine Zac ?_
 refine Zaf ?_
 refine Zaw Zag rfl (fun(i:Nat)=> [(0, .v (.l .s) l),(1, .v .s s),(7,nt l.length),(8,nt i)]) (fun _=> []) (fun i=>i≤l.length∧ZcZ s l 0=ZcZ s (l.drop i) i) (fun i=>l.length-i) ?_ 0 ⟨Xao _,rfl⟩ (Zaq ⟨rfl,rfl,rfl,rfl,trivial⟩)
 rintro i ⟨hi,he⟩
 cases I:decide ((i:Int)<(l.length:Int))with
 |false=>
  have e:i=l.length:=by have:=of_decide_eq_false I;omega
  refine Zae ?_
  refine Zac ?_
  refine Zaf ?_
  refine brF I ?_
  refine Zae ?_
  refine Zac ?_
  refine Zaf ?_
  exact congrArg (fun x=>SV.v (.i .i64) x) (by rw[he,e,Xbm];rfl)
 |true=>
  have j:i<l.length:=by have:=of_decide_eq_true I;omega
  have R:l[(i:Int).toNat]? =some l[i]:=by rw[Xad];exact Xac j
  have C:ZcZ s (l.drop i) i=bif s==l[i]then(i:Int)else ZcZ s (l.drop (i+1)) (i+1):=by rw[Xaz j,ZcZ]
  obtain⟨x,ex⟩: ∃x,l[i]=x:=⟨_,rfl⟩
  rw[ex]at R C
  refine Zae ?_
  refine Zac ?_
  refine Zaf ?_
  refine brT I ?_
  refine Zae ?_
  iterate 2 refine Zac ?_
  refine Zaf ?_
  cases J:(s==x)with
  |true=>
   rw[J]at C
   refine Zae ?_
   iterate 3 refine Zac ?_
   refine Zbb rfl (fun _=>rfl) (Xaj i) R rfl rfl ?_
   iterate 2 refine Zac ?_
   refine Zaf ?_
   refine brT J ?_
   refine Zae ?_
   iterate 2 refine Zac ?_
   refine Zaf ?_
   refine ZaR ?_
   repeat (first|refine ZaF ?_|refine ZaG ?_|refine Zaz ?_)
   exact congrArg (fun x=>SV.v (.i .i64) x) (he.trans C).symm
  |false=>
   rw[J]at C
   refine Zae ?_
   iterate 3 refine Zac ?_
   refine Zbb rfl (fun _=>rfl) (Xaj i) R rfl rfl ?_
   iterate 2 refine Zac ?_
   refine Zaf ?_
   refine brF J ?_
   refine Zae ?_
   iterate 2 refine Zac ?_
   refine Zaf ?_
   refine⟨i+1,⟨j,he.trans C⟩,by show l.length-(i+1)<l.length-i;omega, ?_⟩
   exact Zaq ⟨rfl,rfl,rfl,congrArg (fun x=>some (SV.v (.i .i64) x)) (Zca (by omega)),trivial⟩
theorem ZuG (a b:Txt):(a==b)=(b==a):=by
 rw[Xbh,beq_iff_eq,beq_iff_eq];exact⟨Eq.symm,Eq.symm⟩
theorem Zyk (l:List Txt) (s:Txt) (U:l.length≤1000):PureOK Tryz.prog Zao 45 [.v (.l .s) l, .v .s s] (fun V=>V= .v (.i .i64) (ZcZ s l 0)):=by
 refine Zai Zag Tryz.func45 ?_
 refine Zae ?_
 refine Zac ?_
 refine Zaf ?_
 refine Zae ?_
 iterate 3 refine Zac ?_
 refine Zaf ?_
 refine Zaw Zag rfl (fun(i:Nat)=> [(1, .v .s s),(7, .v (.l .s) l),(8,nt l.length),(9,nt i)]) (fun _=> []) (fun i=>i≤l.length∧ZcZ s l 0=ZcZ s (l.drop i) i) (fun i=>l.length-i) ?_ 0 ⟨Xao _,rfl⟩ (Zaq ⟨rfl,rfl,rfl,rfl,trivial⟩)
 rintro i ⟨hi,he⟩
 cases I:decide ((i:Int)<(l.length:Int))with
 |false=>
  have e:i=l.length:=by have:=of_decide_eq_false I;omega
  refine Zae ?_
  refine Zac ?_
  refine Zaf ?_
  refine brF I ?_
  refine Zae ?_
  refine Zac ?_
  refine Zaf ?_
  exact congrArg (fun x=>SV.v (.i .i64) x) (by rw[he,e,Xbm];rfl)
 |true=>
  have j:i<l.length:=by have:=of_decide_eq_true I;omega
  have R:l[(i:Int).toNat]? =some l[i]:=by rw[Xad];exact Xac j
  have C:ZcZ s (l.drop i) i=bif l[i]==s then(i:Int)else ZcZ s (l.drop (i+1)) (i+1):=by rw[Xaz j,ZcZ,ZuG]
  obtain⟨x,ex⟩: ∃x,l[i]=x:=⟨_,rfl⟩
  rw[ex]at R C
  refine Zae ?_
  refine Zac ?_
  refine Zaf ?_
  refine brT I ?_
  refine Zae ?_
  refine Zac ?_
  refine Zbb rfl (fun _=>rfl) (Xaj i) R rfl rfl ?_
  iterate 3 refine Zac ?_
  refine Zaf ?_
  cases J:(x==s)with
  |true=>
   rw[J]at C
   refine Zae ?_
   iterate 3 refine Zac ?_
   refine Zaf ?_
   refine brT J ?_
   refine Zae ?_
   iterate 2 refine Zac ?_
   refine Zaf ?_
   refine ZaR ?_
   repeat (first|refine ZaF ?_|refine ZaG ?_|refine Zaz ?_)
   exact congrArg (fun x=>SV.v (.i .i64) x) (he.trans C).symm
  |false=>
   rw[J]at C
   refine Zae ?_
   iterate 3 refine Zac ?_
   refine Zaf ?_
   refine brF J ?_
   refine Zae ?_
   iterate 2 refine Zac ?_
   refine Zaf ?_
   refine⟨i+1,⟨j,he.trans C⟩,by show l.length-(i+1)<l.length-i;omega, ?_⟩
   exact Zaq ⟨rfl,rfl,rfl,congrArg (fun x=>some (SV.v (.i .i64) x)) (Zca (by omega)),trivial⟩
theorem Zv3 (s:Txt) (l:List Txt):decide ((0:Int)≤ZcZ s l 0)=Zdg s l:=(Zme s l 0).symm
theorem ZpT (l:List Txt) (s:Txt) (j:l.length≤1000):PureOK Tryz.prog Zao 62 [.v (.l .s) l, .v .s s] (fun V=>V= .v .b (Zdg s l)):=by
 refine Zai Zag Tryz.func62 ?_
 have h:=Zxy l s j
 refine Zae ?_
 refine Zac ?_
 refine Zaf ?_
 refine Zae ?_
 iterate 2 refine Zac ?_
 refine Zad rfl ((h).mono ?_)
 rintro _ rfl
 refine Zaa rfl rfl ?_
 iterate 2 refine Zac ?_
 refine Zaf ?_
 exact congrArg (fun x=>SV.v .b x) (Zv3 s l)
theorem Zzz (l:List Txt) (s:Txt) (j:l.length≤1000):PureOK Tryz.prog Zao 22 [.v (.l .s) l, .v .s s] (fun V=>V= .v .b (Zdg s l)):=by
 refine Zai Zag Tryz.func22 ?_
 have h:=Zyk l s j
 refine Zae ?_
 refine Zac ?_
 refine Zaf ?_
 refine Zae ?_
 iterate 2 refine Zac ?_
 refine Zad rfl ((h).mono ?_)
 rintro _ rfl
 refine Zaa rfl rfl ?_
 iterate 2 refine Zac ?_
 refine Zaf ?_
 exact congrArg (fun x=>SV.v .b x) (Zv3 s l)
theorem Zsd (n lo hi:Int):(!inR n lo hi)=(decide (n<lo)||decide (hi<n)):=by
 unfold inR
 rw[Xbh]
 simp only[Bool.not_eq_true',Bool.and_eq_false_iff,decide_eq_false_iff_not,Bool.or_eq_true,decide_eq_true_eq]
 omega
theorem ZlM (n lo hi:Int):PureOK Tryz.prog Zao 63 [.v (.i .i64) n, .v (.i .i64) lo, .v (.i .i64) hi] (fun V=>V= .v .b (!inR n lo hi)):=by
 refine Zai Zag Tryz.func63 ?_
 rw[Zsd]
 refine Zae ?_
 refine Zac ?_
 refine Zaf ?_
 cases j:decide (n<lo)with
 |true=>
  refine Zae ?_
  iterate 4 refine Zac ?_
  refine Zah j ?_
  refine Zah j ?_
  refine Zah j ?_
  refine Zat j ?_
  refine Zac ?_
  refine Zaf ?_
  rfl
 |false=>
  refine Zae ?_
  iterate 4 refine Zac ?_
  refine Zab j ?_
  refine Zab j ?_
  refine Zab j ?_
  refine Zal j ?_
  refine Zac ?_
  refine Zaf ?_
  rfl
theorem ZgZ (n lo hi:Int):PureOK Tryz.prog Zao 47 [.v (.i .i64) n, .v (.i .i64) lo, .v (.i .i64) hi] (fun V=>V= .v .b (inR n lo hi)):=by
 refine Zai Zag Tryz.func47 ?_
 have e:inR n lo hi= !(decide (n<lo)||decide (hi<n)):=by rw[←Zsd,Bool.not_not]
 rw[e]
 refine Zae ?_
 refine Zac ?_
 refine Zaf ?_
 cases j:decide (n<lo)with
 |true=>
  refine Zae ?_
  iterate 4 refine Zac ?_
  refine Zah j ?_
  refine Zah j ?_
  refine Zah j ?_
  refine Zat j ?_
  iterate 2 refine Zac ?_
  refine Zaf ?_
  rfl
 |false=>
  refine Zae ?_
  iterate 4 refine Zac ?_
  refine Zab j ?_
  refine Zab j ?_
  refine Zab j ?_
  refine Zal j ?_
  iterate 2 refine Zac ?_
  refine Zaf ?_
  rfl
theorem Zcv (n:Int):PureOK Tryz.prog Zao 64 [.v (.i .i64) n] (fun V=>V= .v .b (inR n 0 100000)):=by
 refine Zai Zag Tryz.func64 ?_
 have h:=ZlM n 0 100000
 refine Zae ?_
 refine Zac ?_
 refine Zaf ?_
 refine Zae ?_
 refine Zac ?_
 refine Zad rfl ((h).mono ?_)
 rintro _ rfl
 refine Zaa rfl rfl ?_
 iterate 2 refine Zac ?_
 refine Zaf ?_
 exact congrArg (fun x=>SV.v .b x) (Bool.not_not _)
def brV (b:Br):SV:= .agg [.v .s b.1, .v .s b.2.1, .v .s b.2.2.1, .v (.i .i64) b.2.2.2.1, .v (.i .i64) b.2.2.2.2.1, .v (.i .i64) b.2.2.2.2.2.1, .v (.i .i64) b.2.2.2.2.2.2.1, .v (.i .i64) b.2.2.2.2.2.2.2.1, .v (.i .i64) b.2.2.2.2.2.2.2.2]
theorem Zvy (b:Br):PureOK Tryz.prog Zao 36 [brV b] (fun V=>V= .v (.i .i64) (bif ZhW b then(4:Int)else 0)):=by
 refine Zai Zag Tryz.func36 ?_
 have j:=ZlM b.2.2.2.1 1 10000
 have C:=ZlM b.2.2.2.2.1 500 1500
 have c3:=ZlM b.2.2.2.2.2.1 (-1000) 1000
 have c4:=ZlM b.2.2.2.2.2.2.1 0 100000
 have c5:=ZlM b.2.2.2.2.2.2.2.1 b.2.2.2.2.2.2.1 100000
 have I:=ZlM b.2.2.2.2.2.2.2.2 0 200000
 have hb:ZhW b= !(inR b.2.2.2.1 1 10000&&inR b.2.2.2.2.1 500 1500&&inR b.2.2.2.2.2.1 (-1000) 1000&&inR b.2.2.2.2.2.2.1 0 100000&&inR b.2.2.2.2.2.2.2.1 b.2.2.2.2.2.2.1 100000&&inR b.2.2.2.2.2.2.2.2 0 200000):=rfl
 rw[hb]
 obtain⟨i1,J⟩: ∃x,inR b.2.2.2.1 1 10000=x:=⟨_,rfl⟩
 rw[J]at j
 obtain⟨i2,R⟩: ∃x,inR b.2.2.2.2.1 500 1500=x:=⟨_,rfl⟩
 rw[R]at C
 obtain⟨i3,U⟩: ∃x,inR b.2.2.2.2.2.1 (-1000) 1000=x:=⟨_,rfl⟩
 rw[U]at c3
 obtain⟨i4,h4⟩: ∃x,inR b.2.2.2.2.2.2.1 0 100000=x:=⟨_,rfl⟩
 rw[h4]at c4
 obtain⟨i5,h5⟩: ∃x,inR b.2.2.2.2.2.2.2.1 b.2.2.2.2.2.2.1 100000=x:=⟨_,rfl⟩
 rw[h5]at c5
 obtain⟨i6,h6⟩: ∃x,inR b.2.2.2.2.2.2.2.2 0 200000=x:=⟨_,rfl⟩
 rw[h6]at I
 rw[J,R,U,h4,h5,h6]
 refine Zae ?_
 refine ZbB ?_
 refine Zac ?_
 refine Zaf ?_
 cases i1 with
 |false=>
  refine Zae ?_
  refine Zac ?_
  refine Zap rfl (fun _=>rfl) rfl rfl rfl ?_
  refine Zad rfl ((j).mono ?_)
  rintro _ rfl
  refine Zaa rfl rfl ?_
  refine Zac ?_
  refine Zah rfl ?_
  refine Zah rfl ?_
  refine Zah rfl ?_
  refine Zat rfl ?_
  refine Zac ?_
  refine Zah rfl ?_
  refine Zah rfl ?_
  refine Zah rfl ?_
  refine Zat rfl ?_
  refine Zac ?_
  refine Zah rfl ?_
  refine Zah rfl ?_
  refine Zah rfl ?_
  refine Zat rfl ?_
  refine Zac ?_
  refine Zah rfl ?_
  refine Zah rfl ?_
  refine Zah rfl ?_
  refine Zah rfl ?_
  refine Zah rfl ?_
  refine Zat rfl ?_
  refine Zac ?_
  refine Zah rfl ?_
  refine Zah rfl ?_
  refine Zah rfl ?_
  refine Zat rfl ?_
  refine Zaf ?_
  refine brT rfl ?_
  refine Zae ?_
  refine Zac ?_
  refine Zaf ?_
  rfl
 |true=>
  cases i2 with
  |false=>
   refine Zae ?_
   refine Zac ?_
   refine Zap rfl (fun _=>rfl) rfl rfl rfl ?_
   refine Zad rfl ((j).mono ?_)
   rintro _ rfl
   refine Zaa rfl rfl ?_
   refine Zac ?_
   refine Zab rfl ?_
   refine Zaj rfl rfl rfl rfl (fun _=>rfl) rfl rfl rfl ?_
   refine Zam rfl rfl rfl rfl ((C).mono ?_)
   rintro _ rfl
   refine Zaa rfl rfl ?_
   refine Zal rfl ?_
   refine Zac ?_
   refine Zah rfl ?_
   refine Zah rfl ?_
   refine Zah rfl ?_
   refine Zat rfl ?_
   refine Zac ?_
   refine Zah rfl ?_
   refine Zah rfl ?_
   refine Zah rfl ?_
   refine Zat rfl ?_
   refine Zac ?_
   refine Zah rfl ?_
   refine Zah rfl ?_
   refine Zah rfl ?_
   refine Zah rfl ?_
   refine Zah rfl ?_
   refine Zat rfl ?_
   refine Zac ?_
   refine Zah rfl ?_
   refine Zah rfl ?_
   refine Zah rfl ?_
   refine Zat rfl ?_
   refine Zaf ?_
   refine brT rfl ?_
   refine Zae ?_
   refine Zac ?_
   refine Zaf ?_
   rfl
  |true=>
   cases i3 with
   |false=>
    refine Zae ?_
    refine Zac ?_
    refine Zap rfl (fun _=>rfl) rfl rfl rfl ?_
    refine Zad rfl ((j).mono ?_)
    rintro _ rfl
    refine Zaa rfl rfl ?_
    refine Zac ?_
    refine Zab rfl ?_
    refine Zaj rfl rfl rfl rfl (fun _=>rfl) rfl rfl rfl ?_
    refine Zam rfl rfl rfl rfl ((C).mono ?_)
    rintro _ rfl
    refine Zaa rfl rfl ?_
    refine Zal rfl ?_
    refine Zac ?_
    refine Zab rfl ?_
    refine Zaj rfl rfl rfl rfl (fun _=>rfl) rfl rfl rfl ?_
    refine Zam rfl rfl rfl rfl ((c3).mono ?_)
    rintro _ rfl
    refine Zaa rfl rfl ?_
    refine Zal rfl ?_
    refine Zac ?_
    refine Zah rfl ?_
    refine Zah rfl ?_
    refine Zah rfl ?_
    refine Zat rfl ?_
    refine Zac ?_
    refine Zah rfl ?_
    refine Zah rfl ?_
    refine Zah rfl ?_
    refine Zah rfl ?_
    refine Zah rfl ?_
    refine Zat rfl ?_
    refine Zac ?_
    refine Zah rfl ?_
    refine Zah rfl ?_
    refine Zah rfl ?_
    refine Zat rfl ?_
    refine Zaf ?_
    refine brT rfl ?_
    refine Zae ?_
    refine Zac ?_
    refine Zaf ?_
    rfl
   |true=>
    cases i4 with
    |false=>
     refine Zae ?_
     refine Zac ?_
     refine Zap rfl (fun _=>rfl) rfl rfl rfl ?_
     refine Zad rfl ((j).mono ?_)
     rintro _ rfl
     refine Zaa rfl rfl ?_
     refine Zac ?_
     refine Zab rfl ?_
     refine Zaj rfl rfl rfl rfl (fun _=>rfl) rfl rfl rfl ?_
     refine Zam rfl rfl rfl rfl ((C).mono ?_)
     rintro _ rfl
     refine Zaa rfl rfl ?_
     refine Zal rfl ?_
     refine Zac ?_
     refine Zab rfl ?_
     refine Zaj rfl rfl rfl rfl (fun _=>rfl) rfl rfl rfl ?_
     refine Zam rfl rfl rfl rfl ((c3).mono ?_)
     rintro _ rfl
     refine Zaa rfl rfl ?_
     refine Zal rfl ?_
     refine Zac ?_
     refine Zab rfl ?_
     refine Zaj rfl rfl rfl rfl (fun _=>rfl) rfl rfl rfl ?_
     refine Zam rfl rfl rfl rfl ((c4).mono ?_)
     rintro _ rfl
     refine Zaa rfl rfl ?_
     refine Zal rfl ?_
     refine Zac ?_
     refine Zah rfl ?_
     refine Zah rfl ?_
     refine Zah rfl ?_
     refine Zah rfl ?_
     refine Zah rfl ?_
     refine Zat rfl ?_
     refine Zac ?_
     refine Zah rfl ?_
     refine Zah rfl ?_
     refine Zah rfl ?_
     refine Zat rfl ?_
     refine Zaf ?_
     refine brT rfl ?_
     refine Zae ?_
     refine Zac ?_
     refine Zaf ?_
     rfl
    |true=>
     cases i5 with
     |false=>
      refine Zae ?_
      refine Zac ?_
      refine Zap rfl (fun _=>rfl) rfl rfl rfl ?_
      refine Zad rfl ((j).mono ?_)
      rintro _ rfl
      refine Zaa rfl rfl ?_
      refine Zac ?_
      refine Zab rfl ?_
      refine Zaj rfl rfl rfl rfl (fun _=>rfl) rfl rfl rfl ?_
      refine Zam rfl rfl rfl rfl ((C).mono ?_)
      rintro _ rfl
      refine Zaa rfl rfl ?_
      refine Zal rfl ?_
      refine Zac ?_
      refine Zab rfl ?_
      refine Zaj rfl rfl rfl rfl (fun _=>rfl) rfl rfl rfl ?_
      refine Zam rfl rfl rfl rfl ((c3).mono ?_)
      rintro _ rfl
      refine Zaa rfl rfl ?_
      refine Zal rfl ?_
      refine Zac ?_
      refine Zab rfl ?_
      refine Zaj rfl rfl rfl rfl (fun _=>rfl) rfl rfl rfl ?_
      refine Zam rfl rfl rfl rfl ((c4).mono ?_)
      rintro _ rfl
      refine Zaa rfl rfl ?_
      refine Zal rfl ?_
      refine Zac ?_
      refine Zab rfl ?_
      refine Zaj rfl rfl rfl rfl (fun _=>rfl) rfl rfl rfl ?_
      refine Zab rfl ?_
      refine Zaj rfl rfl rfl rfl (fun _=>rfl) rfl rfl rfl ?_
      refine Zam rfl rfl rfl rfl ((c5).mono ?_)
      rintro _ rfl
      refine Zaa rfl rfl ?_
      refine Zal rfl ?_
      refine Zac ?_
      refine Zah rfl ?_
      refine Zah rfl ?_
      refine Zah rfl ?_
      refine Zat rfl ?_
      refine Zaf ?_
      refine brT rfl ?_
      refine Zae ?_
      refine Zac ?_
      refine Zaf ?_
      rfl
     |true=>
      cases i6 with
      |false=>
       refine Zae ?_
       refine Zac ?_
       refine Zap rfl (fun _=>rfl) rfl rfl rfl ?_
       refine Zad rfl ((j).mono ?_)
       rintro _ rfl
       refine Zaa rfl rfl ?_
       refine Zac ?_
       refine Zab rfl ?_
       refine Zaj rfl rfl rfl rfl (fun _=>rfl) rfl rfl rfl ?_
       refine Zam rfl rfl rfl rfl ((C).mono ?_)
       rintro _ rfl
       refine Zaa rfl rfl ?_
       refine Zal rfl ?_
       refine Zac ?_
       refine Zab rfl ?_
       refine Zaj rfl rfl rfl rfl (fun _=>rfl) rfl rfl rfl ?_
       refine Zam rfl rfl rfl rfl ((c3).mono ?_)
       rintro _ rfl
       refine Zaa rfl rfl ?_
       refine Zal rfl ?_
       refine Zac ?_
       refine Zab rfl ?_
       refine Zaj rfl rfl rfl rfl (fun _=>rfl) rfl rfl rfl ?_
       refine Zam rfl rfl rfl rfl ((c4).mono ?_)
       rintro _ rfl
       refine Zaa rfl rfl ?_
       refine Zal rfl ?_
       refine Zac ?_
       refine Zab rfl ?_
       refine Zaj rfl rfl rfl rfl (fun _=>rfl) rfl rfl rfl ?_
       refine Zab rfl ?_
       refine Zaj rfl rfl rfl rfl (fun _=>rfl) rfl rfl rfl ?_
       refine Zam rfl rfl rfl rfl ((c5).mono ?_)
       rintro _ rfl
       refine Zaa rfl rfl ?_
       refine Zal rfl ?_
       refine Zac ?_
       refine Zab rfl ?_
       refine Zaj rfl rfl rfl rfl (fun _=>rfl) rfl rfl rfl ?_
       refine Zam rfl rfl rfl rfl ((I).mono ?_)
       rintro _ rfl
       refine Zaa rfl rfl ?_
       refine Zal rfl ?_
       refine Zaf ?_
       refine brT rfl ?_
       refine Zae ?_
       refine Zac ?_
       refine Zaf ?_
       rfl
      |true=>
       refine Zae ?_
       refine Zac ?_
       refine Zap rfl (fun _=>rfl) rfl rfl rfl ?_
       refine Zad rfl ((j).mono ?_)
       rintro _ rfl
       refine Zaa rfl rfl ?_
       refine Zac ?_
       refine Zab rfl ?_
       refine Zaj rfl rfl rfl rfl (fun _=>rfl) rfl rfl rfl ?_
       refine Zam rfl rfl rfl rfl ((C).mono ?_)
       rintro _ rfl
       refine Zaa rfl rfl ?_
       refine Zal rfl ?_
       refine Zac ?_
       refine Zab rfl ?_
       refine Zaj rfl rfl rfl rfl (fun _=>rfl) rfl rfl rfl ?_
       refine Zam rfl rfl rfl rfl ((c3).mono ?_)
       rintro _ rfl
       refine Zaa rfl rfl ?_
       refine Zal rfl ?_
       refine Zac ?_
       refine Zab rfl ?_
       refine Zaj rfl rfl rfl rfl (fun _=>rfl) rfl rfl rfl ?_
       refine Zam rfl rfl rfl rfl ((c4).mono ?_)
       rintro _ rfl
       refine Zaa rfl rfl ?_
       refine Zal rfl ?_
       refine Zac ?_
       refine Zab rfl ?_
       refine Zaj rfl rfl rfl rfl (fun _=>rfl) rfl rfl rfl ?_
       refine Zab rfl ?_
       refine Zaj rfl rfl rfl rfl (fun _=>rfl) rfl rfl rfl ?_
       refine Zam rfl rfl rfl rfl ((c5).mono ?_)
       rintro _ rfl
       refine Zaa rfl rfl ?_
       refine Zal rfl ?_
       refine Zac ?_
       refine Zab rfl ?_
       refine Zaj rfl rfl rfl rfl (fun _=>rfl) rfl rfl rfl ?_
       refine Zam rfl rfl rfl rfl ((I).mono ?_)
       rintro _ rfl
       refine Zaa rfl rfl ?_
       refine Zal rfl ?_
       refine Zaf ?_
       refine brF rfl ?_
       refine Zae ?_
       refine Zac ?_
       refine Zaf ?_
       rfl
theorem Zk7 (b:Br):PureOK Tryz.prog Zao 46 [brV b] (fun V=>V= .v (.i .i64) (bif ZhW b then(4:Int)else 0)):=by
 refine Zai Zag Tryz.func46 ?_
 have j:=ZgZ b.2.2.2.1 1 10000
 have C:=ZgZ b.2.2.2.2.1 500 1500
 have c3:=ZgZ b.2.2.2.2.2.1 (-1000) 1000
 have c4:=ZgZ b.2.2.2.2.2.2.1 0 100000
 have c5:=ZgZ b.2.2.2.2.2.2.2.1 b.2.2.2.2.2.2.1 100000
 have I:=ZgZ b.2.2.2.2.2.2.2.2 0 200000
 have hb:ZhW b= !(inR b.2.2.2.1 1 10000&&inR b.2.2.2.2.1 500 1500&&inR b.2.2.2.2.2.1 (-1000) 1000&&inR b.2.2.2.2.2.2.1 0 100000&&inR b.2.2.2.2.2.2.2.1 b.2.2.2.2.2.2.1 100000&&inR b.2.2.2.2.2.2.2.2 0 200000):=rfl
 rw[hb]
 obtain⟨i1,J⟩: ∃x,inR b.2.2.2.1 1 10000=x:=⟨_,rfl⟩
 rw[J]at j
 obtain⟨i2,R⟩: ∃x,inR b.2.2.2.2.1 500 1500=x:=⟨_,rfl⟩
 rw[R]at C
 obtain⟨i3,U⟩: ∃x,inR b.2.2.2.2.2.1 (-1000) 1000=x:=⟨_,rfl⟩
 rw[U]at c3
 obtain⟨i4,h4⟩: ∃x,inR b.2.2.2.2.2.2.1 0 100000=x:=⟨_,rfl⟩
 rw[h4]at c4
 obtain⟨i5,h5⟩: ∃x,inR b.2.2.2.2.2.2.2.1 b.2.2.2.2.2.2.1 100000=x:=⟨_,rfl⟩
 rw[h5]at c5
 obtain⟨i6,h6⟩: ∃x,inR b.2.2.2.2.2.2.2.2 0 200000=x:=⟨_,rfl⟩
 rw[h6]at I
 rw[J,R,U,h4,h5,h6]
 refine Zae ?_
 refine ZbB ?_
 refine Zac ?_
 refine Zaf ?_
 cases i1 with
 |false=>
  refine Zae ?_
  refine Zac ?_
  refine Zap rfl (fun _=>rfl) rfl rfl rfl ?_
  refine Zad rfl ((j).mono ?_)
  rintro _ rfl
  refine Zaa rfl rfl ?_
  refine Zac ?_
  refine Zah rfl ?_
  refine Zah rfl ?_
  refine Zah rfl ?_
  refine Zal rfl ?_
  refine Zac ?_
  refine Zah rfl ?_
  refine Zah rfl ?_
  refine Zah rfl ?_
  refine Zal rfl ?_
  refine Zac ?_
  refine Zah rfl ?_
  refine Zah rfl ?_
  refine Zah rfl ?_
  refine Zal rfl ?_
  refine Zac ?_
  refine Zah rfl ?_
  refine Zah rfl ?_
  refine Zah rfl ?_
  refine Zah rfl ?_
  refine Zah rfl ?_
  refine Zal rfl ?_
  refine Zac ?_
  refine Zah rfl ?_
  refine Zah rfl ?_
  refine Zah rfl ?_
  refine Zal rfl ?_
  refine Zaf ?_
  refine brF rfl ?_
  refine Zae ?_
  refine Zac ?_
  refine Zaf ?_
  rfl
 |true=>
  cases i2 with
  |false=>
   refine Zae ?_
   refine Zac ?_
   refine Zap rfl (fun _=>rfl) rfl rfl rfl ?_
   refine Zad rfl ((j).mono ?_)
   rintro _ rfl
   refine Zaa rfl rfl ?_
   refine Zac ?_
   refine Zab rfl ?_
   refine Zaj rfl rfl rfl rfl (fun _=>rfl) rfl rfl rfl ?_
   refine Zam rfl rfl rfl rfl ((C).mono ?_)
   rintro _ rfl
   refine Zaa rfl rfl ?_
   refine Zat rfl ?_
   refine Zac ?_
   refine Zah rfl ?_
   refine Zah rfl ?_
   refine Zah rfl ?_
   refine Zal rfl ?_
   refine Zac ?_
   refine Zah rfl ?_
   refine Zah rfl ?_
   refine Zah rfl ?_
   refine Zal rfl ?_
   refine Zac ?_
   refine Zah rfl ?_
   refine Zah rfl ?_
   refine Zah rfl ?_
   refine Zah rfl ?_
   refine Zah rfl ?_
   refine Zal rfl ?_
   refine Zac ?_
   refine Zah rfl ?_
   refine Zah rfl ?_
   refine Zah rfl ?_
   refine Zal rfl ?_
   refine Zaf ?_
   refine brF rfl ?_
   refine Zae ?_
   refine Zac ?_
   refine Zaf ?_
   rfl
  |true=>
   cases i3 with
   |false=>
    refine Zae ?_
    refine Zac ?_
    refine Zap rfl (fun _=>rfl) rfl rfl rfl ?_
    refine Zad rfl ((j).mono ?_)
    rintro _ rfl
    refine Zaa rfl rfl ?_
    refine Zac ?_
    refine Zab rfl ?_
    refine Zaj rfl rfl rfl rfl (fun _=>rfl) rfl rfl rfl ?_
    refine Zam rfl rfl rfl rfl ((C).mono ?_)
    rintro _ rfl
    refine Zaa rfl rfl ?_
    refine Zat rfl ?_
    refine Zac ?_
    refine Zab rfl ?_
    refine Zaj rfl rfl rfl rfl (fun _=>rfl) rfl rfl rfl ?_
    refine Zam rfl rfl rfl rfl ((c3).mono ?_)
    rintro _ rfl
    refine Zaa rfl rfl ?_
    refine Zat rfl ?_
    refine Zac ?_
    refine Zah rfl ?_
    refine Zah rfl ?_
    refine Zah rfl ?_
    refine Zal rfl ?_
    refine Zac ?_
    refine Zah rfl ?_
    refine Zah rfl ?_
    refine Zah rfl ?_
    refine Zah rfl ?_
    refine Zah rfl ?_
    refine Zal rfl ?_
    refine Zac ?_
    refine Zah rfl ?_
    refine Zah rfl ?_
    refine Zah rfl ?_
    refine Zal rfl ?_
    refine Zaf ?_
    refine brF rfl ?_
    refine Zae ?_
    refine Zac ?_
    refine Zaf ?_
    rfl
   |true=>
    cases i4 with
    |false=>
     refine Zae ?_
     refine Zac ?_
     refine Zap rfl (fun _=>rfl) rfl rfl rfl ?_
     refine Zad rfl ((j).mono ?_)
     rintro _ rfl
     refine Zaa rfl rfl ?_
     refine Zac ?_
     refine Zab rfl ?_
     refine Zaj rfl rfl rfl rfl (fun _=>rfl) rfl rfl rfl ?_
     refine Zam rfl rfl rfl rfl ((C).mono ?_)
     rintro _ rfl
     refine Zaa rfl rfl ?_
     refine Zat rfl ?_
     refine Zac ?_
     refine Zab rfl ?_
     refine Zaj rfl rfl rfl rfl (fun _=>rfl) rfl rfl rfl ?_
     refine Zam rfl rfl rfl rfl ((c3).mono ?_)
     rintro _ rfl
     refine Zaa rfl rfl ?_
     refine Zat rfl ?_
     refine Zac ?_
     refine Zab rfl ?_
     refine Zaj rfl rfl rfl rfl (fun _=>rfl) rfl rfl rfl ?_
     refine Zam rfl rfl rfl rfl ((c4).mono ?_)
     rintro _ rfl
     refine Zaa rfl rfl ?_
     refine Zat rfl ?_
     refine Zac ?_
     refine Zah rfl ?_
     refine Zah rfl ?_
     refine Zah rfl ?_
     refine Zah rfl ?_
     refine Zah rfl ?_
     refine Zal rfl ?_
     refine Zac ?_
     refine Zah rfl ?_
     refine Zah rfl ?_
     refine Zah rfl ?_
     refine Zal rfl ?_
     refine Zaf ?_
     refine brF rfl ?_
     refine Zae ?_
     refine Zac ?_
     refine Zaf ?_
     rfl
    |true=>
     cases i5 with
     |false=>
      refine Zae ?_
      refine Zac ?_
      refine Zap rfl (fun _=>rfl) rfl rfl rfl ?_
      refine Zad rfl ((j).mono ?_)
      rintro _ rfl
      refine Zaa rfl rfl ?_
      refine Zac ?_
      refine Zab rfl ?_
      refine Zaj rfl rfl rfl rfl (fun _=>rfl) rfl rfl rfl ?_
      refine Zam rfl rfl rfl rfl ((C).mono ?_)
      rintro _ rfl
      refine Zaa rfl rfl ?_
      refine Zat rfl ?_
      refine Zac ?_
      refine Zab rfl ?_
      refine Zaj rfl rfl rfl rfl (fun _=>rfl) rfl rfl rfl ?_
      refine Zam rfl rfl rfl rfl ((c3).mono ?_)
      rintro _ rfl
      refine Zaa rfl rfl ?_
      refine Zat rfl ?_
      refine Zac ?_
      refine Zab rfl ?_
      refine Zaj rfl rfl rfl rfl (fun _=>rfl) rfl rfl rfl ?_
      refine Zam rfl rfl rfl rfl ((c4).mono ?_)
      rintro _ rfl
      refine Zaa rfl rfl ?_
      refine Zat rfl ?_
      refine Zac ?_
      refine Zab rfl ?_
      refine Zaj rfl rfl rfl rfl (fun _=>rfl) rfl rfl rfl ?_
      refine Zab rfl ?_
      refine Zaj rfl rfl rfl rfl (fun _=>rfl) rfl rfl rfl ?_
      refine Zam rfl rfl rfl rfl ((c5).mono ?_)
      rintro _ rfl
      refine Zaa rfl rfl ?_
      refine Zat rfl ?_
      refine Zac ?_
      refine Zah rfl ?_
      refine Zah rfl ?_
      refine Zah rfl ?_
      refine Zal rfl ?_
      refine Zaf ?_
      refine brF rfl ?_
      refine Zae ?_
      refine Zac ?_
      refine Zaf ?_
      rfl
     |true=>
      cases i6 with
      |false=>
       refine Zae ?_
       refine Zac ?_
       refine Zap rfl (fun _=>rfl) rfl rfl rfl ?_
       refine Zad rfl ((j).mono ?_)
       rintro _ rfl
       refine Zaa rfl rfl ?_
       refine Zac ?_
       refine Zab rfl ?_
       refine Zaj rfl rfl rfl rfl (fun _=>rfl) rfl rfl rfl ?_
       refine Zam rfl rfl rfl rfl ((C).mono ?_)
       rintro _ rfl
       refine Zaa rfl rfl ?_
       refine Zat rfl ?_
       refine Zac ?_
       refine Zab rfl ?_
       refine Zaj rfl rfl rfl rfl (fun _=>rfl) rfl rfl rfl ?_
       refine Zam rfl rfl rfl rfl ((c3).mono ?_)
       rintro _ rfl
       refine Zaa rfl rfl ?_
       refine Zat rfl ?_
       refine Zac ?_
       refine Zab rfl ?_
       refine Zaj rfl rfl rfl rfl (fun _=>rfl) rfl rfl rfl ?_
       refine Zam rfl rfl rfl rfl ((c4).mono ?_)
       rintro _ rfl
       refine Zaa rfl rfl ?_
       refine Zat rfl ?_
       refine Zac ?_
       refine Zab rfl ?_
       refine Zaj rfl rfl rfl rfl (fun _=>rfl) rfl rfl rfl ?_
       refine Zab rfl ?_
       refine Zaj rfl rfl rfl rfl (fun _=>rfl) rfl rfl rfl ?_
       refine Zam rfl rfl rfl rfl ((c5).mono ?_)
       rintro _ rfl
       refine Zaa rfl rfl ?_
       refine Zat rfl ?_
       refine Zac ?_
       refine Zab rfl ?_
       refine Zaj rfl rfl rfl rfl (fun _=>rfl) rfl rfl rfl ?_
       refine Zam rfl rfl rfl rfl ((I).mono ?_)
       rintro _ rfl
       refine Zaa rfl rfl ?_
       refine Zat rfl ?_
       refine Zaf ?_
       refine brF rfl ?_
       refine Zae ?_
       refine Zac ?_
       refine Zaf ?_
       rfl
      |true=>
       refine Zae ?_
       refine Zac ?_
       refine Zap rfl (fun _=>rfl) rfl rfl rfl ?_
       refine Zad rfl ((j).mono ?_)
       rintro _ rfl
       refine Zaa rfl rfl ?_
       refine Zac ?_
       refine Zab rfl ?_
       refine Zaj rfl rfl rfl rfl (fun _=>rfl) rfl rfl rfl ?_
       refine Zam rfl rfl rfl rfl ((C).mono ?_)
       rintro _ rfl
       refine Zaa rfl rfl ?_
       refine Zat rfl ?_
       refine Zac ?_
       refine Zab rfl ?_
       refine Zaj rfl rfl rfl rfl (fun _=>rfl) rfl rfl rfl ?_
       refine Zam rfl rfl rfl rfl ((c3).mono ?_)
       rintro _ rfl
       refine Zaa rfl rfl ?_
       refine Zat rfl ?_
       refine Zac ?_
       refine Zab rfl ?_
       refine Zaj rfl rfl rfl rfl (fun _=>rfl) rfl rfl rfl ?_
       refine Zam rfl rfl rfl rfl ((c4).mono ?_)
       rintro _ rfl
       refine Zaa rfl rfl ?_
       refine Zat rfl ?_
       refine Zac ?_
       refine Zab rfl ?_
       refine Zaj rfl rfl rfl rfl (fun _=>rfl) rfl rfl rfl ?_
       refine Zab rfl ?_
       refine Zaj rfl rfl rfl rfl (fun _=>rfl) rfl rfl rfl ?_
       refine Zam rfl rfl rfl rfl ((c5).mono ?_)
       rintro _ rfl
       refine Zaa rfl rfl ?_
       refine Zat rfl ?_
       refine Zac ?_
       refine Zab rfl ?_
       refine Zaj rfl rfl rfl rfl (fun _=>rfl) rfl rfl rfl ?_
       refine Zam rfl rfl rfl rfl ((I).mono ?_)
       rintro _ rfl
       refine Zaa rfl rfl ?_
       refine Zat rfl ?_
       refine Zaf ?_
       refine brT rfl ?_
       refine Zae ?_
       refine Zac ?_
       refine Zaf ?_
       rfl
def Zjx (i:Nat) (c:UInt8):Bool:=ZlY c||(decide (0<i)&&Znn c)
def chR (c:UInt8):Bool:=ZlY c||Znn c
theorem Zd8 (i:Nat) (c:UInt8):Zjx i c=((decide ((c.toNat:Int)≥(65:Int))&&decide ((c.toNat:Int)≤(90:Int)))||(decide ((i:Int)>(0:Int))&&(decide ((c.toNat:Int)≥(48:Int))&&decide ((c.toNat:Int)≤(57:Int))))):=by
 unfold Zjx ZlY Znn
 rw[Xbh]
 simp only[Bool.or_eq_true,Xag,decide_eq_true_eq]
 omega
theorem ZiX (c:UInt8):chR c= !((decide ((c.toNat:Int)<(65:Int))||decide ((c.toNat:Int)>(90:Int)))&&(decide ((c.toNat:Int)<(48:Int))||decide ((c.toNat:Int)>(57:Int)))):=by
 unfold chR ZlY Znn
 rw[Xbh]
 simp only[Bool.or_eq_true,Xag,decide_eq_true_eq,Bool.not_eq_true',Bool.and_eq_false_iff,Xbg,decide_eq_false_iff_not]
 omega
theorem ZvI {s:Txt} (h: ∀j (C:j<s.length),Zjx j s[j]=true):Zbu s=(decide (1≤s.length)&&decide (s.length≤8)):=by
 cases s with
 |nil=>rfl
 |cons c r=>
  have I:=h 0 (Nat.succ_pos _)
  have J:ZlY c=true:=by simpa[Zjx]using I
  have R:(r.all fun c=>ZlY c||Znn c)=true:=by
   rw[Xau]
   intro x U
   obtain⟨j,C,rfl⟩:=List.getElem_of_mem U
   have:=h (j+1) (Nat.succ_lt_succ C)
   simpa[Zjx]using this
  rw[Zbu,J,R,Bool.and_true,Bool.and_true,Xap,Xbh]
  simp
theorem Zuw {s:Txt} {j:Nat} (I:j<s.length) (h:Zjx j s[j]=false):Zbu s=false:=by
 cases s with
 |nil=>exact absurd I (Nat.not_lt_zero j)
 |cons c r=>
  rw[Zbu]
  cases j with
  |zero=>
   have C:ZlY c=false:=by simpa[Zjx]using h
   rw[C];simp
  |succ j=>
   have C:(r.all fun c=>ZlY c||Znn c)=false:=by
    rw[List.all_eq_false]
    exact⟨r[j]'(Nat.lt_of_succ_lt_succ I),Xax _,by simpa[Zjx]using h⟩
   rw[C];simp
theorem Zuh {s:Txt} {i:Nat} (h:i<s.length):(ZdH s)[(i:Int).toNat]? =some ((s[i].toNat:Nat):Int):=by
 rw[Xad,ZdH,Xa2,Xac h];rfl
theorem ZvY (s:Txt) (hs:s.length≤9223372036854775806):PureOK Tryz.prog Zao 61 [.v .s s] (fun V=>V= .v .b (Zbu s)):=by
 refine Zai Zag Tryz.func61 ?_
 have ae:(ZdH s).length=s.length:=Xa0 _
 refine Zae ?_
 refine Zac ?_
 refine Zaf ?_
 refine Zae ?_
 iterate 4 refine Zac ?_
 refine Zaf ?_
 refine Zaw Zag rfl (fun(i:Nat)=> [(0, .v .s s),(6, .v (.l (.i .u8)) (ZdH s)),(7,nt s.length),(8,nt i)]) (fun _=> []) (fun i=>i≤s.length∧ ∀j (hj:j<s.length),j<i→Zjx j s[j]=true) (fun i=>s.length-i) ?_ 0 ⟨Xao _,fun j _ h=>absurd h (Nat.not_lt_zero j)⟩ (Zaq ⟨rfl,rfl,congrArg (fun x=>some (SV.v (.i .i64) x)) (congrArg Int.ofNat ae),rfl,trivial⟩)
 rintro i ⟨hi,ad⟩
 cases h0:decide ((i:Int)<(s.length:Int))with
 |false=>
  have e:i=s.length:=by have:=of_decide_eq_false h0;omega
  have hn:=ZvI fun j hj=>ad j hj (by omega)
  refine Zae ?_
  refine Zac ?_
  refine Zaf ?_
  refine brF h0 ?_
  cases g1:decide ((s.length:Int)≥(1:Int))with
  |true=>
   refine Zae ?_
   iterate 4 refine Zac ?_
   refine Zab g1 ?_
   refine Zab g1 ?_
   refine Zab g1 ?_
   refine Zat g1 ?_
   refine Zac ?_
   refine Zaf ?_
   refine congrArg (fun x=>SV.v .b x) ?_
   rw[hn,Xbh]
   have:=of_decide_eq_true g1
   simp only[Xag,decide_eq_true_eq]
   omega
  |false=>
   refine Zae ?_
   iterate 4 refine Zac ?_
   refine Zah g1 ?_
   refine Zah g1 ?_
   refine Zah g1 ?_
   refine Zal g1 ?_
   refine Zac ?_
   refine Zaf ?_
   refine congrArg (fun x=>SV.v .b x) ?_
   rw[hn,Xbh]
   have:=of_decide_eq_false g1
   simp only[Xag,decide_eq_true_eq]
   constructor
   ·intro h;cases h
   ·intro h;omega
 |true=>
  have ab:i<s.length:=by have:=of_decide_eq_true h0;omega
  have gx:=Zuh ab
  have wi:IntKind.i64.wrap ((i:Int)+1)=((i+1:Nat):Int):=Zan (by omega) (by omega)
  have okN:Zjx i s[i]=true→i+1≤s.length∧ ∀j (hj:j<s.length),j<i+1→Zjx j s[j]=true:=fun h=>⟨ab,fun j hj af=>by
   by_cases e:j=i
   ·subst e;exact h
   ·exact ad j hj (by omega)⟩
  have aa:Zjx i s[i]=false→Zbu s=false:=Zuw ab
  obtain⟨c,ec⟩: ∃x,s[i]=x:=⟨_,rfl⟩
  rw[ec]at gx okN aa
  refine Zae ?_
  refine Zac ?_
  refine Zaf ?_
  refine brT h0 ?_
  refine Zae ?_
  refine Zac ?_
  refine Zbb rfl (fun _=>rfl) (Xaj i) gx rfl rfl ?_
  iterate 3 refine Zac ?_
  refine Zaf ?_
  cases I:decide ((c.toNat:Int)≥(65:Int))with
  |true=>
   cases C:decide ((c.toNat:Int)≤(90:Int))with
   |true=>
    refine Zae ?_
    iterate 3 refine Zac ?_
    refine Zab I ?_
    refine Zab I ?_
    refine Zat I ?_
    refine Zac ?_
    refine Zah C ?_
    refine Zah C ?_
    refine Zah C ?_
    refine Zcs ?_
    refine Zcs ?_
    refine Zah C ?_
    refine Zah C ?_
    refine Zcs ?_
    refine Zcs ?_
    refine Zah C ?_
    refine Zat C ?_
    refine Zac ?_
    refine Zaf ?_
    refine brF (show(!decide ((c.toNat:Int)≤(90:Int)))=false by rw[C];rfl) ?_
    have U:Zjx i c=true:=by rw[Zd8,I,C];simp
    refine Zae ?_
    iterate 2 refine Zac ?_
    refine Zaf ?_
    refine⟨i+1,okN U,by show s.length-(i+1)<s.length-i;omega, ?_⟩
    exact Zaq ⟨rfl,rfl,rfl,congrArg (fun x=>some (SV.v (.i .i64) x)) wi,trivial⟩
   |false=>
    cases J:decide ((i:Int)>(0:Int))with
    |true=>
     cases R:decide ((c.toNat:Int)≥(48:Int))with
     |true=>
      cases h5:decide ((c.toNat:Int)≤(57:Int))with
      |true=>
       refine Zae ?_
       iterate 3 refine Zac ?_
       refine Zab I ?_
       refine Zab I ?_
       refine Zat I ?_
       refine Zac ?_
       refine Zab C ?_
       refine Zab C ?_
       refine Zab C ?_
       refine Zab J ?_
       refine Zab J ?_
       refine Za0 rfl rfl rfl C rfl rfl J rfl rfl rfl ?_
       refine Zab C ?_
       refine Zab R ?_
       refine Zab R ?_
       refine Za0 rfl rfl rfl C rfl rfl R rfl rfl rfl ?_
       refine Zal C ?_
       refine Zac ?_
       refine Zaf ?_
       refine brF (show(!decide ((c.toNat:Int)≤(57:Int)))=false by rw[h5];rfl) ?_
       have U:Zjx i c=true:=by rw[Zd8,I,C,J,R,h5];simp
       refine Zae ?_
       iterate 2 refine Zac ?_
       refine Zaf ?_
       refine⟨i+1,okN U,by show s.length-(i+1)<s.length-i;omega, ?_⟩
       exact Zaq ⟨rfl,rfl,rfl,congrArg (fun x=>some (SV.v (.i .i64) x)) wi,trivial⟩
      |false=>
       refine Zae ?_
       iterate 3 refine Zac ?_
       refine Zab I ?_
       refine Zab I ?_
       refine Zat I ?_
       refine Zac ?_
       refine Zab C ?_
       refine Zab C ?_
       refine Zab C ?_
       refine Zab J ?_
       refine Zab J ?_
       refine Za0 rfl rfl rfl C rfl rfl J rfl rfl rfl ?_
       refine Zab C ?_
       refine Zab R ?_
       refine Zab R ?_
       refine Za0 rfl rfl rfl C rfl rfl R rfl rfl rfl ?_
       refine Zal C ?_
       refine Zac ?_
       refine Zaf ?_
       refine brT (show(!decide ((c.toNat:Int)≤(57:Int)))=true by rw[h5];rfl) ?_
       have U:Zjx i c=false:=by rw[Zd8,I,C,J,R,h5];simp
       refine Zae ?_
       refine Zac ?_
       refine Zaf ?_
       refine ZaR ?_
       repeat (first|refine ZaF ?_|refine ZaG ?_|refine Zaz ?_)
       exact congrArg (fun x=>SV.v .b x) (aa U).symm
     |false=>
      refine Zae ?_
      iterate 3 refine Zac ?_
      refine Zab I ?_
      refine Zab I ?_
      refine Zat I ?_
      refine Zac ?_
      refine Zab C ?_
      refine Zab C ?_
      refine Zab C ?_
      refine Zab J ?_
      refine Zab J ?_
      refine Za0 rfl rfl rfl C rfl rfl J rfl rfl rfl ?_
      refine Zab C ?_
      refine Zah R ?_
      refine Zah R ?_
      refine Za9 rfl rfl rfl C rfl rfl R rfl rfl rfl ?_
      refine Zal C ?_
      refine Zac ?_
      refine Zaf ?_
      refine brT (show(!decide ((c.toNat:Int)≥(48:Int)))=true by rw[R];rfl) ?_
      have U:Zjx i c=false:=by rw[Zd8,I,C,J,R];simp
      refine Zae ?_
      refine Zac ?_
      refine Zaf ?_
      refine ZaR ?_
      repeat (first|refine ZaF ?_|refine ZaG ?_|refine Zaz ?_)
      exact congrArg (fun x=>SV.v .b x) (aa U).symm
    |false=>
     refine Zae ?_
     iterate 3 refine Zac ?_
     refine Zab I ?_
     refine Zab I ?_
     refine Zat I ?_
     refine Zac ?_
     refine Zab C ?_
     refine Zab C ?_
     refine Zab C ?_
     refine Zah J ?_
     refine Zah J ?_
     refine Za9 rfl rfl rfl C rfl rfl J rfl rfl rfl ?_
     refine Zab C ?_
     refine Zah rfl ?_
     refine Zah rfl ?_
     refine Za9 rfl rfl rfl C rfl rfl rfl rfl rfl rfl ?_
     refine Zal C ?_
     refine Zac ?_
     refine Zaf ?_
     refine brT (show(!decide ((i:Int)>(0:Int)))=true by rw[J];rfl) ?_
     have U:Zjx i c=false:=by rw[Zd8,I,C,J];simp
     refine Zae ?_
     refine Zac ?_
     refine Zaf ?_
     refine ZaR ?_
     repeat (first|refine ZaF ?_|refine ZaG ?_|refine Zaz ?_)
     exact congrArg (fun x=>SV.v .b x) (aa U).symm
  |false=>
   cases J:decide ((i:Int)>(0:Int))with
   |true=>
    cases R:decide ((c.toNat:Int)≥(48:Int))with
    |true=>
     cases h5:decide ((c.toNat:Int)≤(57:Int))with
     |true=>
      refine Zae ?_
      iterate 3 refine Zac ?_
      refine Zah I ?_
      refine Zah I ?_
      refine Zal I ?_
      refine Zac ?_
      refine Zab rfl ?_
      refine Zab rfl ?_
      refine Zab rfl ?_
      refine Zab J ?_
      refine Zab J ?_
      refine Za0 rfl rfl rfl rfl rfl rfl J rfl rfl rfl ?_
      refine Zab rfl ?_
      refine Zab R ?_
      refine Zab R ?_
      refine Za0 rfl rfl rfl rfl rfl rfl R rfl rfl rfl ?_
      refine Zal rfl ?_
      refine Zac ?_
      refine Zaf ?_
      refine brF (show(!decide ((c.toNat:Int)≤(57:Int)))=false by rw[h5];rfl) ?_
      have U:Zjx i c=true:=by rw[Zd8,I,J,R,h5];simp
      refine Zae ?_
      iterate 2 refine Zac ?_
      refine Zaf ?_
      refine⟨i+1,okN U,by show s.length-(i+1)<s.length-i;omega, ?_⟩
      exact Zaq ⟨rfl,rfl,rfl,congrArg (fun x=>some (SV.v (.i .i64) x)) wi,trivial⟩
     |false=>
      refine Zae ?_
      iterate 3 refine Zac ?_
      refine Zah I ?_
      refine Zah I ?_
      refine Zal I ?_
      refine Zac ?_
      refine Zab rfl ?_
      refine Zab rfl ?_
      refine Zab rfl ?_
      refine Zab J ?_
      refine Zab J ?_
      refine Za0 rfl rfl rfl rfl rfl rfl J rfl rfl rfl ?_
      refine Zab rfl ?_
      refine Zab R ?_
      refine Zab R ?_
      refine Za0 rfl rfl rfl rfl rfl rfl R rfl rfl rfl ?_
      refine Zal rfl ?_
      refine Zac ?_
      refine Zaf ?_
      refine brT (show(!decide ((c.toNat:Int)≤(57:Int)))=true by rw[h5];rfl) ?_
      have U:Zjx i c=false:=by rw[Zd8,I,J,R,h5];simp
      refine Zae ?_
      refine Zac ?_
      refine Zaf ?_
      refine ZaR ?_
      repeat (first|refine ZaF ?_|refine ZaG ?_|refine Zaz ?_)
      exact congrArg (fun x=>SV.v .b x) (aa U).symm
    |false=>
     refine Zae ?_
     iterate 3 refine Zac ?_
     refine Zah I ?_
     refine Zah I ?_
     refine Zal I ?_
     refine Zac ?_
     refine Zab rfl ?_
     refine Zab rfl ?_
     refine Zab rfl ?_
     refine Zab J ?_
     refine Zab J ?_
     refine Za0 rfl rfl rfl rfl rfl rfl J rfl rfl rfl ?_
     refine Zab rfl ?_
     refine Zah R ?_
     refine Zah R ?_
     refine Za9 rfl rfl rfl rfl rfl rfl R rfl rfl rfl ?_
     refine Zal rfl ?_
     refine Zac ?_
     refine Zaf ?_
     refine brT (show(!decide ((c.toNat:Int)≥(48:Int)))=true by rw[R];rfl) ?_
     have U:Zjx i c=false:=by rw[Zd8,I,J,R];simp
     refine Zae ?_
     refine Zac ?_
     refine Zaf ?_
     refine ZaR ?_
     repeat (first|refine ZaF ?_|refine ZaG ?_|refine Zaz ?_)
     exact congrArg (fun x=>SV.v .b x) (aa U).symm
   |false=>
    refine Zae ?_
    iterate 3 refine Zac ?_
    refine Zah I ?_
    refine Zah I ?_
    refine Zal I ?_
    refine Zac ?_
    refine Zab rfl ?_
    refine Zab rfl ?_
    refine Zab rfl ?_
    refine Zah J ?_
    refine Zah J ?_
    refine Za9 rfl rfl rfl rfl rfl rfl J rfl rfl rfl ?_
    refine Zab rfl ?_
    refine Zah rfl ?_
    refine Zah rfl ?_
    refine Za9 rfl rfl rfl rfl rfl rfl rfl rfl rfl rfl ?_
    refine Zal rfl ?_
    refine Zac ?_
    refine Zaf ?_
    refine brT (show(!decide ((i:Int)>(0:Int)))=true by rw[J];rfl) ?_
    have U:Zjx i c=false:=by rw[Zd8,I,J];simp
    refine Zae ?_
    refine Zac ?_
    refine Zaf ?_
    refine ZaR ?_
    repeat (first|refine ZaF ?_|refine ZaG ?_|refine Zaz ?_)
    exact congrArg (fun x=>SV.v .b x) (aa U).symm
theorem Zf5 (c:UInt8) (r:Txt):Zbu (c::r)=(Nat.ble (r.length+1) 8&&(ZlY c&&r.all chR)):=rfl
theorem ZvP (s:Txt):PureOK Tryz.prog Zao 21 [.v .s s] (fun V=>V= .v .b (Zbu s)):=by
 refine Zai Zag Tryz.func21 ?_
 refine Zae ?_
 refine Zac ?_
 refine Zaf ?_
 cases s with
 |nil=>
  refine Zae ?_
  iterate 4 refine Zac ?_
  refine Zah rfl ?_
  refine Zah rfl ?_
  refine Zah rfl ?_
  refine Zat rfl ?_
  refine Zac ?_
  refine Zah rfl ?_
  refine Zah rfl ?_
  refine Zah rfl ?_
  refine Zat rfl ?_
  refine Zac ?_
  refine Zah rfl ?_
  refine Zah rfl ?_
  refine Zah rfl ?_
  refine Zat rfl ?_
  refine Zaf ?_
  refine brT rfl ?_
  refine Zae ?_
  refine Zac ?_
  refine Zaf ?_
  rfl
 |cons c0 r=>
  have R:decide (((c0::r).length:Int)=(0:Int))=false:=by rw[decide_eq_false_iff_not,Xap];omega
  have g0:(c0::r)[(0:Int).toNat]? =some c0:=rfl
  obtain⟨s,es⟩: ∃x,c0::r=x:=⟨_,rfl⟩
  have hl:s.length=r.length+1:=by rw[←es];rfl
  rw[es]at R g0⊢
  cases C:decide ((s.length:Int)>(8:Int))with
  |true=>
   refine Zae ?_
   iterate 4 refine Zac ?_
   refine Zab R ?_
   refine Zab R ?_
   refine Zab R ?_
   refine Zal R ?_
   refine Zac ?_
   refine Zah C ?_
   refine Zah C ?_
   refine Zah C ?_
   refine Zat C ?_
   refine Zac ?_
   refine Zah rfl ?_
   refine Zah rfl ?_
   refine Zah rfl ?_
   refine Zat rfl ?_
   refine Zaf ?_
   refine brT C ?_
   refine Zae ?_
   refine Zac ?_
   refine Zaf ?_
   refine congrArg (fun x=>SV.v .b x) ?_
   have I:Nat.ble (r.length+1) 8=false:=by
    have h3:=of_decide_eq_true C
    cases hb:Nat.ble (r.length+1) 8 with
    |false=>rfl
    |true=>have:=Xal hb;omega
   rw[←es,Zf5,I];rfl
  |false=>
   have af:s.length≤8:=by have:=of_decide_eq_false C;omega
   have ab:Nat.ble (r.length+1) 8=true:=by rw[Nat.ble_eq];omega
   cases I:decide ((c0.toNat:Int)<(65:Int))with
   |true=>
    have hu:ZlY c0=false:=by have:=of_decide_eq_true I;simp[ZlY];omega
    refine Zae ?_
    iterate 4 refine Zac ?_
    refine Zab R ?_
    refine Zab R ?_
    refine Zab R ?_
    refine Zal R ?_
    refine Zac ?_
    refine Zab C ?_
    refine ZbZ rfl rfl rfl C (fun _=>rfl) (XaT 0) g0 rfl rfl ?_
    refine Zab C ?_
    refine Zal C ?_
    refine Zac ?_
    refine Zah I ?_
    refine Zah I ?_
    refine Zah I ?_
    refine Zat I ?_
    refine Zaf ?_
    refine brT I ?_
    refine Zae ?_
    refine Zac ?_
    refine Zaf ?_
    refine congrArg (fun x=>SV.v .b x) ?_
    rw[←es,Zf5,hu];simp
   |false=>
    cases h3:decide ((c0.toNat:Int)>(90:Int))with
    |true=>
     have hu:ZlY c0=false:=by have:=of_decide_eq_true h3;simp[ZlY];omega
     refine Zae ?_
     iterate 4 refine Zac ?_
     refine Zab R ?_
     refine Zab R ?_
     refine Zab R ?_
     refine Zal R ?_
     refine Zac ?_
     refine Zab C ?_
     refine ZbZ rfl rfl rfl C (fun _=>rfl) (XaT 0) g0 rfl rfl ?_
     refine Zab C ?_
     refine Zal C ?_
     refine Zac ?_
     refine Zab I ?_
     refine ZbZ rfl rfl rfl I (fun _=>rfl) (XaT 0) g0 rfl rfl ?_
     refine Zab I ?_
     refine Zal I ?_
     refine Zaf ?_
     refine brT h3 ?_
     refine Zae ?_
     refine Zac ?_
     refine Zaf ?_
     refine congrArg (fun x=>SV.v .b x) ?_
     rw[←es,Zf5,hu];simp
    |false=>
     have hu:ZlY c0=true:=by have:=of_decide_eq_false I;have:=of_decide_eq_false h3;simp[ZlY];omega
     have hn:Zbu s=s.all chR:=by rw[←es,Zf5,ab,hu,XbL,show chR c0=true by rw[chR,hu];rfl];simp
     rw[hn]
     refine Zae ?_
     iterate 4 refine Zac ?_
     refine Zab R ?_
     refine Zab R ?_
     refine Zab R ?_
     refine Zal R ?_
     refine Zac ?_
     refine Zab C ?_
     refine ZbZ rfl rfl rfl C (fun _=>rfl) (XaT 0) g0 rfl rfl ?_
     refine Zab C ?_
     refine Zal C ?_
     refine Zac ?_
     refine Zab I ?_
     refine ZbZ rfl rfl rfl I (fun _=>rfl) (XaT 0) g0 rfl rfl ?_
     refine Zab I ?_
     refine Zal I ?_
     refine Zaf ?_
     refine brF h3 ?_
     clear R C I h3 hn es hl g0 ab hu
     refine Zae ?_
     iterate 3 refine Zac ?_
     refine Zaf ?_
     refine Zaw Zag rfl (fun(i:Nat)=> [(0, .v .s s),(24,nt s.length),(25,nt i)]) (fun _=> []) (fun i=>i≤s.length∧ ∀j (hj:j<s.length),j<i→chR s[j]=true) (fun i=>s.length-i) ?_ 0 ⟨Xao _,fun j _ h=>absurd h (Nat.not_lt_zero j)⟩ (Zaq ⟨rfl,rfl,rfl,trivial⟩)
     rintro i ⟨hi,ad⟩
     cases R:decide ((i:Int)<(s.length:Int))with
     |false=>
      have e:i=s.length:=by have:=of_decide_eq_false R;omega
      refine Zae ?_
      refine Zac ?_
      refine Zaf ?_
      refine brF R ?_
      refine Zae ?_
      refine Zac ?_
      refine Zaf ?_
      refine congrArg (fun x=>SV.v .b x) (Eq.symm ?_)
      rw[Xau]
      intro x hx
      obtain⟨j,hj,rfl⟩:=List.getElem_of_mem hx
      exact ad j hj (by omega)
     |true=>
      have ae:i<s.length:=by have:=of_decide_eq_true R;omega
      have gx:s[(i:Int).toNat]? =some s[i]:=by rw[Xad];exact Xac ae
      have wi:IntKind.i64.wrap ((i:Int)+1)=((i+1:Nat):Int):=Zan (by omega) (by omega)
      have okN:chR s[i]=true→i+1≤s.length∧ ∀j (hj:j<s.length),j<i+1→chR s[j]=true:=fun h=>⟨ae,fun j hj ag=>by
       by_cases e:j=i
       ·subst e;exact h
       ·exact ad j hj (by omega)⟩
      have aa:chR s[i]=false→s.all chR=false:=fun h=>by
       rw[List.all_eq_false]
       exact⟨s[i],Xax _,by rw[h];decide⟩
      obtain⟨c,ec⟩: ∃x,s[i]=x:=⟨_,rfl⟩
      rw[ec]at gx okN aa
      refine Zae ?_
      refine Zac ?_
      refine Zaf ?_
      refine brT R ?_
      refine Zae ?_
      iterate 2 refine Zac ?_
      refine Zaf ?_
      refine Zae ?_
      iterate 2 refine Zac ?_
      refine Zbb rfl (fun _=>rfl) (Xaj i) gx rfl rfl ?_
      refine Zac ?_
      refine Zaf ?_
      cases C:decide ((c.toNat:Int)<(65:Int))with
      |true=>
       cases J:decide ((c.toNat:Int)<(48:Int))with
       |true=>
        refine Zae ?_
        iterate 3 refine Zac ?_
        refine Zah C ?_
        refine Zah C ?_
        refine Zat C ?_
        refine Zac ?_
        refine Zab rfl ?_
        refine Zab rfl ?_
        refine Zab rfl ?_
        refine Zah J ?_
        refine Zah J ?_
        refine Za0 rfl rfl rfl rfl rfl rfl J rfl rfl rfl ?_
        refine Zat rfl ?_
        refine Zaf ?_
        refine brT rfl ?_
        have U:chR c=false:=by rw[ZiX,C,J];first|rfl|simp
        refine Zae ?_
        refine Zac ?_
        refine Zaf ?_
        refine ZaR ?_
        repeat (first|refine ZaF ?_|refine ZaG ?_|refine Zaz ?_)
        exact congrArg (fun x=>SV.v .b x) (aa U).symm
       |false=>
        cases h5:decide ((c.toNat:Int)>(57:Int))with
        |true=>
         refine Zae ?_
         iterate 3 refine Zac ?_
         refine Zah C ?_
         refine Zah C ?_
         refine Zat C ?_
         refine Zac ?_
         refine Zab rfl ?_
         refine Zab rfl ?_
         refine Zab rfl ?_
         refine Zab J ?_
         refine Zab J ?_
         refine Za9 rfl rfl rfl rfl rfl rfl J rfl rfl rfl ?_
         refine Zat rfl ?_
         refine Zaf ?_
         refine brT h5 ?_
         have U:chR c=false:=by rw[ZiX,C,J,h5];first|rfl|simp
         refine Zae ?_
         refine Zac ?_
         refine Zaf ?_
         refine ZaR ?_
         repeat (first|refine ZaF ?_|refine ZaG ?_|refine Zaz ?_)
         exact congrArg (fun x=>SV.v .b x) (aa U).symm
        |false=>
         refine Zae ?_
         iterate 3 refine Zac ?_
         refine Zah C ?_
         refine Zah C ?_
         refine Zat C ?_
         refine Zac ?_
         refine Zab rfl ?_
         refine Zab rfl ?_
         refine Zab rfl ?_
         refine Zab J ?_
         refine Zab J ?_
         refine Za9 rfl rfl rfl rfl rfl rfl J rfl rfl rfl ?_
         refine Zat rfl ?_
         refine Zaf ?_
         refine brF h5 ?_
         have U:chR c=true:=by rw[ZiX,C,J,h5];first|rfl|simp
         refine Zae ?_
         iterate 2 refine Zac ?_
         refine Zaf ?_
         refine⟨i+1,okN U,by show s.length-(i+1)<s.length-i;omega, ?_⟩
         exact Zaq ⟨rfl,rfl,congrArg (fun x=>some (SV.v (.i .i64) x)) wi,trivial⟩
      |false=>
       cases I:decide ((c.toNat:Int)>(90:Int))with
       |true=>
        cases J:decide ((c.toNat:Int)<(48:Int))with
        |true=>
         refine Zae ?_
         iterate 3 refine Zac ?_
         refine Zab C ?_
         refine Zab C ?_
         refine Zal C ?_
         refine Zac ?_
         refine Zab I ?_
         refine Zab I ?_
         refine Zab I ?_
         refine Zah J ?_
         refine Zah J ?_
         refine Za0 rfl rfl rfl I rfl rfl J rfl rfl rfl ?_
         refine Zat I ?_
         refine Zaf ?_
         refine brT rfl ?_
         have U:chR c=false:=by rw[ZiX,C,I,J];first|rfl|simp
         refine Zae ?_
         refine Zac ?_
         refine Zaf ?_
         refine ZaR ?_
         repeat (first|refine ZaF ?_|refine ZaG ?_|refine Zaz ?_)
         exact congrArg (fun x=>SV.v .b x) (aa U).symm
        |false=>
         cases h5:decide ((c.toNat:Int)>(57:Int))with
         |true=>
          refine Zae ?_
          iterate 3 refine Zac ?_
          refine Zab C ?_
          refine Zab C ?_
          refine Zal C ?_
          refine Zac ?_
          refine Zab I ?_
          refine Zab I ?_
          refine Zab I ?_
          refine Zab J ?_
          refine Zab J ?_
          refine Za9 rfl rfl rfl I rfl rfl J rfl rfl rfl ?_
          refine Zat I ?_
          refine Zaf ?_
          refine brT h5 ?_
          have U:chR c=false:=by rw[ZiX,C,I,J,h5];first|rfl|simp
          refine Zae ?_
          refine Zac ?_
          refine Zaf ?_
          refine ZaR ?_
          repeat (first|refine ZaF ?_|refine ZaG ?_|refine Zaz ?_)
          exact congrArg (fun x=>SV.v .b x) (aa U).symm
         |false=>
          refine Zae ?_
          iterate 3 refine Zac ?_
          refine Zab C ?_
          refine Zab C ?_
          refine Zal C ?_
          refine Zac ?_
          refine Zab I ?_
          refine Zab I ?_
          refine Zab I ?_
          refine Zab J ?_
          refine Zab J ?_
          refine Za9 rfl rfl rfl I rfl rfl J rfl rfl rfl ?_
          refine Zat I ?_
          refine Zaf ?_
          refine brF h5 ?_
          have U:chR c=true:=by rw[ZiX,C,I,J,h5];first|rfl|simp
          refine Zae ?_
          iterate 2 refine Zac ?_
          refine Zaf ?_
          refine⟨i+1,okN U,by show s.length-(i+1)<s.length-i;omega, ?_⟩
          exact Zaq ⟨rfl,rfl,congrArg (fun x=>some (SV.v (.i .i64) x)) wi,trivial⟩
       |false=>
        refine Zae ?_
        iterate 3 refine Zac ?_
        refine Zab C ?_
        refine Zab C ?_
        refine Zal C ?_
        refine Zac ?_
        refine Zah I ?_
        refine Zah I ?_
        refine Zah I ?_
        refine Zcs ?_
        refine Zcs ?_
        refine Zah I ?_
        refine Zal I ?_
        refine Zaf ?_
        refine brF rfl ?_
        have U:chR c=true:=by rw[ZiX,C,I];first|rfl|simp
        refine Zae ?_
        iterate 2 refine Zac ?_
        refine Zaf ?_
        refine⟨i+1,okN U,by show s.length-(i+1)<s.length-i;omega, ?_⟩
        exact Zaq ⟨rfl,rfl,congrArg (fun x=>some (SV.v (.i .i64) x)) wi,trivial⟩
end Go.Proofs.YtapbiodcncnnfaaGreatDoor
