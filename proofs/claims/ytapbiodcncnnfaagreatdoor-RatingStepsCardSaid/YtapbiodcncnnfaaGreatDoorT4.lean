import Derived.Test.YtapbiodcncnnfaaGreatDoorTx8
set_option linter.all false
set_option maxHeartbeats 16000000
set_option maxRecDepth 100000
namespace Go.Proofs.YtapbiodcncnnfaaGreatDoor
open Go.Am Go.Tx Dv
theorem Zsj (x:Int):x.fdiv (2^min (Int.toNat 32) IntKind.i64.bits)=x/4294967296:=by
 show x.fdiv 4294967296=_
 rw[Int.fdiv_eq_ediv_of_nonneg _ (by omega)]
theorem ZjG (a b:List Int) (ha:Wd a) (hb:Wd b) (aa:b.length≤a.length) (hl:a.length≤1000000) (hle:wv b≤wv a):PureOK Tryz.prog Zao 93 [Zby a,Zby b] (fun V=> ∃out,V=Zby out∧Wd out∧out.length=a.length∧wv out=wv a-wv b):=by
 refine Zai Zag Tryz.func93 ?_
 have w2:0≤(a.length:Int)∧(a.length:Int)≤a.length∧(4:Int)*a.length≤281474976710656∧(a.length:Int)<9223372036854775808:=by omega
 have w3:a.length=(a.length:Int).toNat:=(Xad _).symm
 have w4:List.replicate a.length (0:Int)=List.replicate (a.length:Int).toNat 0:=by rw[←w3]
 refine Xaa w2 ?_
 refine Zaw Zag rfl (fun(s:Nat×Int×List Int)=> [(0,Zby a),(1,Zby b),(5, .ref 0 0 a.length none),(6, .v (.i .i64) s.2.1),(12, .v (.i .i64) (a.length:Int)),(13, .v (.i .i64) (s.1:Int))]) (fun s=> [.row (.i .u32) s.2.2 true])
  (fun s=>s.1≤a.length∧ -1≤s.2.1∧s.2.1≤0∧s.2.2.length=a.length∧Wd (s.2.2.take s.1)∧wv (s.2.2.take s.1)+4294967296^s.1*s.2.1=wv (a.take s.1)-wv (b.take s.1)) (fun s=>a.length-s.1) ?_ (0,0,List.replicate a.length 0) ?_ ?_
 ·rintro⟨i,c,out⟩ ⟨hi,ab,ad,hlen,I,j⟩
  simp only at hi ab ad hlen I j
  refine Xaa (fun h=> ?_) (fun h=> ?_)
  ·have C:i<a.length:=by have:=of_decide_eq_true h;simp only at this;omega
   have ae:=ha _ (Xax C)
   have e1:IntKind.i64.wrap a[i]=a[i]:=Zan (by omega) (by omega)
   have e2:IntKind.i64.wrap (c+IntKind.i64.wrap a[i])=c+a[i]:=by rw[e1];exact Zan (by omega) (by omega)
   have ho:i<out.length:=by omega
   have R: ∀c':Int,Wd ((out.set i (c' % 4294967296)).take (i+1)):=by
    intro c' x hx
    rw[Zcl ho]at hx
    rcases XaA.1 hx with hx|hx
    ·exact I x hx
    ·rw[Xat.1 hx];omega
   have wi:IntKind.i64.wrap ((i:Int)+1)=((i+1:Nat):Int):=Zan (by omega) (by omega)
   refine⟨a[i],Xaj i,Xac C, ?_⟩
   refine Xaa (fun h2=> ?_) (fun h2=> ?_)
   ·have J:i<b.length:=by have:=of_decide_eq_true h2;simp only at this;omega
    have af:=hb _ (Xax J)
    have e3:IntKind.i64.wrap b[i]=b[i]:=Zan (by omega) (by omega)
    have e4:IntKind.i64.wrap (IntKind.i64.wrap (c+IntKind.i64.wrap a[i])-IntKind.i64.wrap b[i])=c+a[i]-b[i]:=by rw[e2,e3];exact Zan (by omega) (by omega)
    refine⟨b[i],Xaj i,Xac J, ?_⟩
    refine Xaa ⟨Xaj i,by show(i:Int)<(a.length:Int);omega⟩ ?_
    refine Exists.intro (out[i]) (Xaa (by simp) ?_)
    refine Xaa (by decide) ?_
    have ec:(c+a[i]-b[i])/4294967296=(IntKind.i64.wrap (IntKind.i64.wrap (c+IntKind.i64.wrap a[i])-IntKind.i64.wrap b[i])).fdiv (2^min (Int.toNat 32) IntKind.i64.bits):=by rw[e4,Zsj]
    have er:out.set i ((c+a[i]-b[i]) % 4294967296)=out.set (0+(i:Int).toNat) (IntKind.u32.wrap (IntKind.i64.wrap (IntKind.i64.wrap (c+IntKind.i64.wrap a[i])-IntKind.i64.wrap b[i]))):=by rw[e4,Za8,Xad,Xaq]
    refine⟨(i+1,(c+a[i]-b[i])/4294967296,out.set i ((c+a[i]-b[i]) % 4294967296)),⟨C, ?_, ?_, ?_,R _, ?_⟩, ?_, ?_⟩
    ·show-1≤(c+a[i]-b[i])/4294967296;omega
    ·show(c+a[i]-b[i])/4294967296≤0;omega
    ·show(out.set _ _).length=_;simpa using hlen
    ·exact Zpf C ho (ZbL J) rfl j
    ·show a.length-(i+1)<a.length-i;omega
    ·refine Zas rfl rfl ?_ ?_
     ·exact⟨rfl,rfl,⟨rfl,rfl,rfl⟩,ec,rfl,wi.symm,trivial⟩
     ·exact⟨⟨er,fun _=>rfl⟩,trivial⟩
   ·have J:b.length≤i:=by have:=of_decide_eq_false h2;simp only at this;omega
    have hz:wv (b.take (i+1))=wv (b.take i)+4294967296^i*0:=by rw[Xay (by omega),Xay J];omega
    refine Xaa ⟨Xaj i,by show(i:Int)<(a.length:Int);omega⟩ ?_
    refine Exists.intro (out[i]) (Xaa (by simp) ?_)
    refine Xaa (by decide) ?_
    have ec:(c+a[i]-0)/4294967296=(IntKind.i64.wrap (c+IntKind.i64.wrap a[i])).fdiv (2^min (Int.toNat 32) IntKind.i64.bits):=by rw[e2,Zsj,Int.sub_zero]
    have er:out.set i ((c+a[i]-0) % 4294967296)=out.set (0+(i:Int).toNat) (IntKind.u32.wrap (IntKind.i64.wrap (c+IntKind.i64.wrap a[i]))):=by rw[e2,Za8,Xad,Xaq,Int.sub_zero]
    refine⟨(i+1,(c+a[i]-0)/4294967296,out.set i ((c+a[i]-0) % 4294967296)),⟨C, ?_, ?_, ?_,R _, ?_⟩, ?_, ?_⟩
    ·show-1≤(c+a[i]-0)/4294967296;omega
    ·show(c+a[i]-0)/4294967296≤0;omega
    ·show(out.set _ _).length=_;simpa using hlen
    ·exact Zpf C ho hz rfl j
    ·show a.length-(i+1)<a.length-i;omega
    ·refine Zas rfl rfl ?_ ?_
     ·exact⟨rfl,rfl,⟨rfl,rfl,rfl⟩,ec,rfl,wi.symm,trivial⟩
     ·exact⟨⟨er,fun _=>rfl⟩,trivial⟩
  ·have he:i=a.length:=by have:=of_decide_eq_false h;simp only at this;omega
   subst he
   refine Xaa (by show 0+a.length≤out.length;omega) ?_
   have hs:sub out 0 a.length=out:=by rw[sub,XaB,Xay (by omega)]
   rw[Xay (by omega:out.length≤a.length)]at I
   rw[Xay (by omega:out.length≤a.length),XaC,Xay aa]at j
   have U:=Zbc I
   rw[hlen]at U
   have hc:c=0:=by
    rcases(show c=0∨c= -1 by omega)with hc|hc
    ·exact hc
    ·subst hc
     generalize(4294967296:Int)^a.length=p at j U
     omega
   subst hc
   exact⟨out,congrArg Zby hs,I,hlen,by rw[←j];simp⟩
 ·exact⟨Xao _,by show(-1:Int)≤0;decide,XaT _,by simp,by intro x hx;simp at hx,by simp[wv]⟩
 ·refine Zas rfl rfl ?_ ?_
  ·exact⟨rfl,rfl,⟨rfl,w3,w3⟩,rfl,rfl,rfl,trivial⟩
  ·exact⟨⟨w4,fun _=>rfl⟩,trivial⟩
theorem ZwK {x:Int} (j:0≤x) (C:x<18446744073709551616):IntKind.u64.wrap ((BitVec.ofInt IntKind.u64.bits x&&&BitVec.ofInt IntKind.u64.bits 4294967295).toNat:Int)=x % 4294967296:=by
 obtain⟨n,rfl⟩: ∃n:Nat,x=n:=⟨x.toNat,by omega⟩
 show IntKind.u64.wrap ((BitVec.ofInt 64 (n:Int)&&&BitVec.ofInt 64 ((4294967295:Nat):Int)).toNat:Int)=_
 rw[BitVec.ofInt_natCast,BitVec.ofInt_natCast,BitVec.toNat_and,BitVec.toNat_ofNat,BitVec.toNat_ofNat,Xbc (by omega),Xbc (by omega)]
 have:n&&&4294967295=n % 4294967296:=Nat.and_two_pow_sub_one_eq_mod n 32
 rw[this,Zax (by omega) (by omega)]
 omega
theorem ZrY {u:List Int} {i j:Nat} {W g Z v bo ca C I:Int} (hu:i+j<u.length) (U:C=ca+g*v) (R:I=bo+(u[i+j]-C % 4294967296)) (h:wv u+4294967296^(j+i)*bo=W-4294967296^j*(g*Z)+4294967296^(j+i)*ca):
 wv (u.set (i+j) (I % 4294967296))+4294967296^(j+(i+1))*(I/4294967296)=W-4294967296^j*(g*(Z+4294967296^i*v))+4294967296^(j+(i+1))*(C/4294967296):=by
 have e1:=XaS I 4294967296
 have e2:=XaS C 4294967296
 have J:(4294967296:Int)^(j+i)=4294967296^j*4294967296^i:=Int.pow_add ..
 have e4:(4294967296:Int)^(j+(i+1))=4294967296^j*4294967296^i*4294967296:=by rw[←Xbt,Xba,J]
 have e5:(4294967296:Int)^(i+j)=4294967296^j*4294967296^i:=by rw[Nat.add_comm,J]
 rw[Zoq hu,e4,e5]
 rw[J]at h
 have x1:I % 4294967296=I-4294967296*(I/4294967296):=by omega
 have x2:C % 4294967296=C-4294967296*(C/4294967296):=by omega
 rw[x1]
 rw[x2]at R
 generalize I/4294967296=y at*
 generalize C/4294967296=t at*
 generalize(4294967296:Int)^j=p at*
 generalize(4294967296:Int)^i=r at*
 generalize u[i+j]=z at*
 subst U R
 grind
def bC (a b:List Int) (n m s j:Nat) (g:Int) (t:Nat×Int×Int×List Int):TM:=[(14, .v (.i .u64) g),(16, .v (.i .i64) t.2.1),(17, .v (.i .u64) t.2.2.1),(142, .v (.i .i64) (n:Int)),(143, .v (.i .i64) (t.1:Int))]++dB a b n m s (j:Int)
theorem Zuj (a b u V q:List Int) (n m s j:Nat) (g:Int) (hm:m≤1000000) (hj:j+n≤m) (ar:n≤m) (hu:u.length=m+1) (aj:Wd u) (hV:V.length=n+1) (ak:Wd V) (g0:0≤g) (g1:g<4294967296):
 LoopOK Tryz.prog Zao 0 ⟨116,0,275⟩ (Za4 Tryz.f116 21) (bC a b n m s j g (0,0,0,u)) (dH u V q)
 (fun e tm hp=>e= .exit 4∧ ∃ (bo ca:Int) (u':List Int) (X:SV),(-1≤bo∧bo≤0∧0≤ca∧ca<4294967296∧u'.length=m+1∧Wd u'∧u'.take j=u.take j∧u'.drop (j+n)=u.drop (j+n)∧wv u'+4294967296^(j+n)*bo=wv u-4294967296^j*(g*wv (V.take n))+4294967296^(j+n)*ca)∧tm=(144,X)::bC a b n m s j g (n,bo,ca,u')∧hp=dH u' V q):=by
 refine Zaw Zag rfl (bC a b n m s j g) (fun t=>dH t.2.2.2 V q)
  (fun t=>t.1≤n∧ -1≤t.2.1∧t.2.1≤0∧0≤t.2.2.1∧t.2.2.1<4294967296∧t.2.2.2.length=m+1∧Wd t.2.2.2∧t.2.2.2.take j=u.take j∧t.2.2.2.drop (j+t.1)=u.drop (j+t.1)∧wv t.2.2.2+4294967296^(j+t.1)*t.2.1=wv u-4294967296^j*(g*wv (V.take t.1))+4294967296^(j+t.1)*t.2.2.1) (fun t=>n-t.1) ?_ (0,0,0,u) ?_ ZaJ
 ·rintro⟨i,bo,ca,u'⟩ ⟨hi,ad,ae,af,ag,hl,hw,ht,hd,I⟩
  simp only at hi ad ae af ag hl hw ht hd I
  refine Xaa (fun h=> ?_) (fun h=> ?_)
  ·have al:i<n:=by have:=of_decide_eq_true h;simp only at this;omega
   have aa:i<V.length:=by omega
   have U:i+j<u'.length:=by omega
   have ab:=ak _ (Xax aa)
   have an:=hw _ (Xax U)
   obtain⟨v,ev⟩: ∃v,V[i]=v:=⟨_,rfl⟩
   obtain⟨z,ez⟩: ∃z,u'[i+j]=z:=⟨_,rfl⟩
   rw[ev]at ab
   rw[ez]at an
   have C:IntKind.i64.wrap ((i:Int)+(j:Int))=((i+j:Nat):Int):=Zan (by omega) (by omega)
   have p0:0≤g*v:=Xbw g0 ab.1
   have p1:g*v≤4294967295*4294967295:=Int.mul_le_mul (by omega) (by omega) ab.1 (by omega)
   obtain⟨J,ah⟩: ∃J,J=ca+g*v:=⟨_,rfl⟩
   obtain⟨R,ai⟩: ∃R,R=bo+(z-J % 4294967296):=⟨_,rfl⟩
   have f1:IntKind.u64.wrap (ca+IntKind.u64.wrap (g*IntKind.u64.wrap v))=J:=by
    rw[Zax (x:=v) (by omega) (by omega),Zax (x:=g*v) (by omega) (by omega),Zax (by omega) (by omega),ah]
   have f2:IntKind.i64.wrap (bo+IntKind.i64.wrap (IntKind.i64.wrap z-IntKind.i64.wrap (IntKind.u64.wrap ((BitVec.ofInt IntKind.u64.bits (IntKind.u64.wrap (ca+IntKind.u64.wrap (g*IntKind.u64.wrap v)))&&&BitVec.ofInt IntKind.u64.bits 4294967295).toNat:Int))))=R:=by
    rw[f1,ZwK (by omega) (by omega),Zan (x:=z) (by omega) (by omega),Zan (x:=J % 4294967296) (by omega) (by omega),Zan (x:=z-J % 4294967296) (by omega) (by omega),Zan (by omega) (by omega),ai]
   refine Xaa ⟨Xaj i,by show(i:Int)<(n:Int);omega⟩ ?_
   refine Exists.intro v (Xaa (by show V[0+(i:Int).toNat]? =some v;rw[Xaq,Xad,←ev];exact Xac aa) ?_)
   refine Xaa ⟨by rw[C];omega,by rw[C];show((i+j:Nat):Int)<((m+1:Nat):Int);omega⟩ ?_
   refine Exists.intro z (Xaa (by show u'[0+(IntKind.i64.wrap ((i:Int)+(j:Int))).toNat]? =some z;rw[C,Xaq,Xad,←ez];exact Xac U) ?_)
   refine Xaa ⟨by rw[C];omega,by rw[C];show((i+j:Nat):Int)<((m+1:Nat):Int);omega⟩ ?_
   refine Exists.intro z (Xaa (by show u'[0+(IntKind.i64.wrap ((i:Int)+(j:Int))).toNat]? =some z;rw[C,Xaq,Xad,←ez];exact Xac U) ?_)
   refine Xaa (by decide) ?_
   refine Xaa (by decide) ?_
   have ao:R/4294967296=(IntKind.i64.wrap (bo+IntKind.i64.wrap (IntKind.i64.wrap z-IntKind.i64.wrap (IntKind.u64.wrap ((BitVec.ofInt IntKind.u64.bits (IntKind.u64.wrap (ca+IntKind.u64.wrap (g*IntKind.u64.wrap v)))&&&BitVec.ofInt IntKind.u64.bits 4294967295).toNat:Int))))).fdiv (2^min (Int.toNat 32) IntKind.i64.bits):=by rw[f2,Zsj]
   have aq:J/4294967296=(IntKind.u64.wrap (ca+IntKind.u64.wrap (g*IntKind.u64.wrap v))).fdiv (2^min (Int.toNat 32) IntKind.u64.bits):=by rw[f1,Zn8]
   have er:u'.set (i+j) (R % 4294967296)=u'.set (0+(IntKind.i64.wrap ((i:Int)+(j:Int))).toNat) (IntKind.u32.wrap (IntKind.i64.wrap (bo+IntKind.i64.wrap (IntKind.i64.wrap z-IntKind.i64.wrap (IntKind.u64.wrap ((BitVec.ofInt IntKind.u64.bits (IntKind.u64.wrap (ca+IntKind.u64.wrap (g*IntKind.u64.wrap v)))&&&BitVec.ofInt IntKind.u64.bits 4294967295).toNat:Int)))))):=by
    rw[f2,C,Xaq,Xad,Za8]
   have wi:IntKind.i64.wrap ((i:Int)+1)=((i+1:Nat):Int):=Zan (by omega) (by omega)
   refine⟨(i+1,R/4294967296,J/4294967296,u'.set (i+j) (R % 4294967296)),⟨al,by show-1≤R/4294967296;omega,by show R/4294967296≤0;omega,by show 0≤J/4294967296;omega,by show J/4294967296<4294967296;omega, ?_, ?_, ?_, ?_, ?_⟩,by show n-(i+1)<n-i;omega, ?_⟩
   ·show(u'.set _ _).length=_;simpa using hl
   ·intro y hy
    rcases Xbk hy with hy|rfl
    ·exact hw y hy
    ·omega
   ·show(u'.set _ _).take j=_
    rw[XbA (by omega),ht]
   ·show(u'.set _ _).drop (j+(i+1))=_
    rw[Xbr (by omega),←Xbt,←Xa9,hd,Xa9]
   ·show wv (u'.set (i+j) (R % 4294967296))+4294967296^(j+(i+1))*(R/4294967296)=wv u-4294967296^j*(g*wv (V.take (i+1)))+4294967296^(j+(i+1))*(J/4294967296)
    rw[ZbL aa,ev]
    exact ZrY U ah (by rw[ez];exact ai) I
   ·refine Zas rfl rfl ?_ ?_
    ·exact⟨rfl,ao,aq,rfl,wi.symm,rfl,rfl,⟨rfl,rfl,rfl⟩,rfl,⟨rfl,rfl,rfl⟩,⟨rfl,rfl,rfl⟩,rfl,rfl,trivial⟩
    ·exact⟨⟨er,fun _=>rfl⟩,⟨rfl,fun _=>rfl⟩,⟨rfl,fun _=>rfl⟩,trivial⟩
  ·have he:i=n:=by have:=of_decide_eq_false h;simp only at this;omega
   subst he
   exact⟨rfl,bo,ca,u',_,⟨ad,ae,af,ag,hl,hw,ht,hd,I⟩,rfl,rfl⟩
 ·exact⟨Xao _,by show(-1:Int)≤0;decide,XaT _,XaT _,by show(0:Int)<4294967296;decide,hu,aj,rfl,rfl,by simp[wv]⟩
theorem Zze {c x:Int} {s:Nat} (C:s≤31) (I:0≤c) (j:c<2^s) (J:0≤x) (R:x<4294967296):
 IntKind.u64.wrap ((BitVec.ofInt IntKind.u64.bits c|||BitVec.ofInt IntKind.u64.bits (IntKind.u64.wrap (IntKind.u64.wrap x*2^min (Int.toNat (s:Int)) IntKind.u64.bits))).toNat:Int)=x*2^s+c:=by
 obtain⟨n,rfl⟩: ∃n:Nat,x=n:=⟨x.toNat,by omega⟩
 obtain⟨m,rfl⟩: ∃m:Nat,c=m:=⟨c.toNat,by omega⟩
 have hm:m<2^s:=by
  have e:((2:Nat):Int)=2:=rfl
  rw[←e,←Xbs]at j
  exact Int.ofNat_lt.1 j
 have hp:(2:Nat)^s≤2^31:=XaW (by decide) C
 have hn:n*2^s≤4294967295*2^31:=Nat.mul_le_mul (by omega) hp
 have em:min (Int.toNat (s:Int)) IntKind.u64.bits=s:=by show min s 64=s;omega
 have U:IntKind.u64.wrap (IntKind.u64.wrap (n:Int)*2^min (Int.toNat (s:Int)) IntKind.u64.bits)=((n*2^s:Nat):Int):=by
  rw[em,Zax (x:=(n:Int)) (by omega) (by omega)]
  have:(n:Int)*2^s=((n*2^s:Nat):Int):=by rw[XaX,Xbs];rfl
  rw[this,Zax (by omega) (by omega)]
 rw[U]
 show IntKind.u64.wrap ((BitVec.ofInt 64 (m:Int)|||BitVec.ofInt 64 ((n*2^s:Nat):Int)).toNat:Int)=_
 rw[BitVec.ofInt_natCast,BitVec.ofInt_natCast,BitVec.toNat_or,BitVec.toNat_ofNat,BitVec.toNat_ofNat,Xbc (by omega),Xbc (by omega)]
 have e3:m|||n*2^s=n*2^s+m:=by
  have:=Nat.shiftLeft_add_eq_or_of_lt (a:=n) (b:=m) (i:=s) hm
  rw[Nat.shiftLeft_eq]at this
  rw[Nat.or_comm]
  exact this.symm
 rw[e3,Zax (by omega) (by omega),Xa7,XaX,Xbs]
 rfl
theorem ZqL {a out:List Int} {i:Nat} {c v z:Int} (hi:i<a.length) (j:i<out.length) (C:v=a[i]*z+c)
 (h:wv (out.take i)+4294967296^i*c=wv (a.take i)*z):wv ((out.set i (v % 4294967296)).take (i+1))+4294967296^(i+1)*(v/4294967296)=wv (a.take (i+1))*z:=by
 rw[Zcl j,ZdZ,ZbL hi,Xas,XaL (Nat.le_of_lt j),Xba]
 have e:v % 4294967296+4294967296*(v/4294967296)=v:=XaS v 4294967296
 have:wv [v % 4294967296]=v % 4294967296:=by simp[wv]
 rw[this,Xbx,Int.add_assoc,←XbI,e,C,Int.add_mul,←h]
 grind
theorem ZmU (a:List Int) (s:Nat) (ha:Wd a) (hs:s≤31) (hl:a.length≤1000000):ImpOK Tryz.prog Zao 128 [Zby a, .v (.i .i64) (s:Int)] (fun V hp sf=> ∃out,V= .ref 0 0 (a.length+1) none∧hp=[.row (.i .u32) out true]∧sf=true∧Wd out∧out.length=a.length+1∧wv out=wv a*2^s):=by
 refine ZbR (fn:=Tryz.f128) (code:=Zbn Tryz.f128) Zag (by kernel_rfl) Tryz.func128 (by kernel_rfl) (Xal (by kernel_rfl)) ?_
 have w1:IntKind.i64.wrap ((a.length:Int)+1)=((a.length+1:Nat):Int):=Zan (by omega) (by omega)
 have w2: ∀x:Int,x=((a.length+1:Nat):Int)→0≤x∧x≤x∧(4:Int)*x≤281474976710656∧x<9223372036854775808:=fun x hx=>by omega
 have w3: ∀x:Int,x=((a.length+1:Nat):Int)→a.length+1=x.toNat:=fun x hx=>by omega
 have w4: ∀x:Int,x=((a.length+1:Nat):Int)→List.replicate (a.length+1) (0:Int)=List.replicate x.toNat 0:=fun x hx=>by rw[←w3 x hx]
 have hp:(0:Int)<2^s:=XbB (by decide)
 have ab:(2:Int)^s≤2^31:=ZgS (b:=2) (by decide) hs
 refine Xaa (w2 _ w1) ?_
 refine Zaw Zag rfl (fun(t:Nat×Int×List Int)=> [(0,Zby a),(1, .v (.i .i64) (s:Int)),(5, .ref 0 0 (a.length+1) none),(6, .v (.i .u64) t.2.1),(13,Zby a),(14, .v (.i .i64) (a.length:Int)),(15, .v (.i .i64) (t.1:Int))]) (fun t=> [.row (.i .u32) t.2.2 true])
  (fun t=>t.1≤a.length∧0≤t.2.1∧t.2.1<2^s∧t.2.2.length=a.length+1∧Wd (t.2.2.take t.1)∧wv (t.2.2.take t.1)+4294967296^t.1*t.2.1=wv (a.take t.1)*2^s) (fun t=>a.length-t.1) ?_ (0,0,List.replicate (a.length+1) 0) ?_ ?_
 ·rintro⟨i,c,out⟩ ⟨hi,I,U,hlen,J,j⟩
  simp only at hi I U hlen J j
  refine Xaa (fun h=> ?_) (fun h=> ?_)
  ·have C:i<a.length:=by have:=of_decide_eq_true h;simp only at this;omega
   have R:=ha _ (Xax C)
   have ho:i<out.length:=by omega
   have wi:IntKind.i64.wrap ((i:Int)+1)=((i+1:Nat):Int):=Zan (by omega) (by omega)
   obtain⟨v,hv⟩: ∃v,v=a[i]*2^s+c:=⟨_,rfl⟩
   have ev:=Zze hs I U R.1 R.2
   rw[←hv]at ev
   have ad:0≤v:=by have:=Xbw R.1 (Xa6 hp);omega
   have aa:v<4294967296*2^s:=by
    have:=XaP (show a[i]≤4294967295 by omega) (Xa6 hp)
    omega
   refine⟨a[i],Xaj i,Xac C, ?_⟩
   refine Xaa (Xaj s) ?_
   refine Xaa ⟨Xaj i,by show(i:Int)<((a.length+1:Nat):Int);omega⟩ ?_
   refine Exists.intro (out[i]) (Xaa (by simp) ?_)
   refine Xaa (by decide) ?_
   have ec:v/4294967296=(IntKind.u64.wrap ((BitVec.ofInt IntKind.u64.bits c|||BitVec.ofInt IntKind.u64.bits (IntKind.u64.wrap (IntKind.u64.wrap a[i]*2^min (Int.toNat (s:Int)) IntKind.u64.bits))).toNat:Int)).fdiv (2^min (Int.toNat 32) IntKind.u64.bits):=by rw[ev,Zn8]
   have er:out.set i (v % 4294967296)=out.set (0+(i:Int).toNat) (IntKind.u32.wrap (IntKind.u64.wrap ((BitVec.ofInt IntKind.u64.bits c|||BitVec.ofInt IntKind.u64.bits (IntKind.u64.wrap (IntKind.u64.wrap a[i]*2^min (Int.toNat (s:Int)) IntKind.u64.bits))).toNat:Int))):=by rw[ev,Za8,Xad,Xaq]
   refine⟨(i+1,v/4294967296,out.set i (v % 4294967296)),⟨C, ?_, ?_, ?_, ?_, ?_⟩, ?_, ?_⟩
   ·show 0≤v/4294967296;omega
   ·show v/4294967296<2^s;exact Int.ediv_lt_of_lt_mul (by decide) (by rw[Int.mul_comm];exact aa)
   ·show(out.set _ _).length=_;simpa using hlen
   ·show Wd ((out.set i _).take (i+1))
    intro x hx
    rw[Zcl ho]at hx
    rcases XaA.1 hx with hx|hx
    ·exact J x hx
    ·rw[Xat.1 hx];omega
   ·exact ZqL C ho hv j
   ·show a.length-(i+1)<a.length-i;omega
   ·refine Zas rfl rfl ?_ ?_
    ·exact⟨rfl,rfl,⟨rfl,rfl,rfl⟩,ec,rfl,rfl,wi.symm,trivial⟩
    ·exact⟨⟨er,fun _=>rfl⟩,trivial⟩
  ·have he:i=a.length:=by have:=of_decide_eq_false h;simp only at this;omega
   subst he
   have ho:a.length<out.length:=by omega
   refine Xaa ⟨Xaj _,by show(a.length:Int)<((a.length+1:Nat):Int);omega⟩ ?_
   refine Exists.intro (out[a.length]) (Xaa (by simp) ?_)
   rw[XaC]at j
   have hx: ∀x:Int,out.set a.length x=out.take a.length++ [x]:=fun x=>by
    rw[←Zcl ho,Xay (by rw[XaN];omega)]
   have ex:out.set (0+(a.length:Int).toNat) (IntKind.u32.wrap c)=out.set a.length c:=by
    rw[Xad,Xaq,Za8,Int.emod_eq_of_lt I (by omega)]
   refine⟨.ref 0 0 (a.length+1) none,[.row (.i .u32) (out.set a.length c) true], ?_,rfl,out.set a.length c,rfl,rfl,rfl, ?_,by rw[XaN];exact hlen, ?_⟩
   ·refine Zas rfl rfl ?_ ?_
    ·exact⟨⟨rfl,rfl,rfl⟩,trivial⟩
    ·exact⟨⟨ex.symm,fun _=>rfl⟩,trivial⟩
   ·rw[hx]
    intro x hx
    rcases XaA.1 hx with hx|hx
    ·exact J x hx
    ·rw[Xat.1 hx];omega
   ·rw[hx,ZdZ,Xas,XaL (Nat.le_of_lt ho),←j]
    simp[wv]
 ·exact⟨Xao _,XaT _,hp,by simp,by intro x hx;simp at hx,by simp[wv]⟩
 ·refine Zas rfl rfl ?_ ?_
  ·exact⟨rfl,rfl,⟨rfl,w3 _ w1,w3 _ w1⟩,rfl,rfl,rfl,rfl,trivial⟩
  ·exact⟨⟨w4 _ w1,fun _=>rfl⟩,trivial⟩
theorem Zqn {u:List Int} {i j:Nat} {W Z v c C:Int} (hu:i+j<u.length) (J:C=c+(u[i+j]+v)) (h:wv u+4294967296^(j+i)*c=W+4294967296^j*Z):
 wv (u.set (i+j) (C % 4294967296))+4294967296^(j+(i+1))*(C/4294967296)=W+4294967296^j*(Z+4294967296^i*v):=by
 have e1:=XaS C 4294967296
 have I:(4294967296:Int)^(j+i)=4294967296^j*4294967296^i:=Int.pow_add ..
 have R:(4294967296:Int)^(j+(i+1))=4294967296^j*4294967296^i*4294967296:=by rw[←Xbt,Xba,I]
 have U:(4294967296:Int)^(i+j)=4294967296^j*4294967296^i:=by rw[Nat.add_comm,I]
 rw[Zoq hu,R,U]
 rw[I]at h
 have x1:C % 4294967296=C-4294967296*(C/4294967296):=by omega
 rw[x1]
 generalize C/4294967296=t at*
 generalize(4294967296:Int)^j=p at*
 generalize(4294967296:Int)^i=r at*
 generalize u[i+j]=z at*
 subst J
 grind
def cC (a b:List Int) (n m s j:Nat) (g:Int) (t:Nat×Int×List Int):TM:=[(14, .v (.i .u64) g),(19, .v (.i .u64) t.2.1),(203, .v (.i .i64) (n:Int)),(204, .v (.i .i64) (t.1:Int))]++dB a b n m s (j:Int)
theorem ZsM (a b u V q:List Int) (n m s j:Nat) (g:Int) (hm:m≤1000000) (hj:j+n≤m) (ak:n≤m) (hu:u.length=m+1) (ae:Wd u) (hV:V.length=n+1) (af:Wd V):
 LoopOK Tryz.prog Zao 0 ⟨116,0,275⟩ (Za4 Tryz.f116 35) (cC a b n m s j g (0,0,u)) (dH u V q)
 (fun e tm hp=>e= .exit 6∧ ∃ (c:Int) (u':List Int) (X:SV),(0≤c∧c≤1∧u'.length=m+1∧Wd u'∧u'.take j=u.take j∧u'.drop (j+n)=u.drop (j+n)∧wv u'+4294967296^(j+n)*c=wv u+4294967296^j*wv (V.take n))∧tm=(205,X)::cC a b n m s j g (n,c,u')∧hp=dH u' V q):=by
 refine Zaw Zag rfl (cC a b n m s j g) (fun t=>dH t.2.2 V q)
  (fun t=>t.1≤n∧0≤t.2.1∧t.2.1≤1∧t.2.2.length=m+1∧Wd t.2.2∧t.2.2.take j=u.take j∧t.2.2.drop (j+t.1)=u.drop (j+t.1)∧wv t.2.2+4294967296^(j+t.1)*t.2.1=wv u+4294967296^j*wv (V.take t.1)) (fun t=>n-t.1) ?_ (0,0,u) ?_ ZaJ
 ·rintro⟨i,c,u'⟩ ⟨hi,aa,ab,hl,hw,ht,hd,I⟩
  simp only at hi aa ab hl hw ht hd I
  refine Xaa (fun h=> ?_) (fun h=> ?_)
  ·have ag:i<n:=by have:=of_decide_eq_true h;simp only at this;omega
   have U:i<V.length:=by omega
   have R:i+j<u'.length:=by omega
   have ah:=af _ (Xax U)
   have ai:=hw _ (Xax R)
   obtain⟨v,ev⟩: ∃v,V[i]=v:=⟨_,rfl⟩
   obtain⟨z,ez⟩: ∃z,u'[i+j]=z:=⟨_,rfl⟩
   rw[ev]at ah
   rw[ez]at ai
   have C:IntKind.i64.wrap ((i:Int)+(j:Int))=((i+j:Nat):Int):=Zan (by omega) (by omega)
   obtain⟨J,ad⟩: ∃J,J=c+(z+v):=⟨_,rfl⟩
   have f1:IntKind.u64.wrap (c+IntKind.u64.wrap (IntKind.u64.wrap z+IntKind.u64.wrap v))=J:=by
    rw[Zax (x:=v) (by omega) (by omega),Zax (x:=z) (by omega) (by omega),Zax (x:=z+v) (by omega) (by omega),Zax (by omega) (by omega),ad]
   refine Xaa ⟨by rw[C];omega,by rw[C];show((i+j:Nat):Int)<((m+1:Nat):Int);omega⟩ ?_
   refine Exists.intro z (Xaa (by show u'[0+(IntKind.i64.wrap ((i:Int)+(j:Int))).toNat]? =some z;rw[C,Xaq,Xad,←ez];exact Xac R) ?_)
   refine Xaa ⟨Xaj i,by show(i:Int)<(n:Int);omega⟩ ?_
   refine Exists.intro v (Xaa (by show V[0+(i:Int).toNat]? =some v;rw[Xaq,Xad,←ev];exact Xac U) ?_)
   refine Xaa ⟨by rw[C];omega,by rw[C];show((i+j:Nat):Int)<((m+1:Nat):Int);omega⟩ ?_
   refine Exists.intro z (Xaa (by show u'[0+(IntKind.i64.wrap ((i:Int)+(j:Int))).toNat]? =some z;rw[C,Xaq,Xad,←ez];exact Xac R) ?_)
   refine Xaa (by decide) ?_
   have aj:J/4294967296=(IntKind.u64.wrap (c+IntKind.u64.wrap (IntKind.u64.wrap z+IntKind.u64.wrap v))).fdiv (2^min (Int.toNat 32) IntKind.u64.bits):=by rw[f1,Zn8]
   have er:u'.set (i+j) (J % 4294967296)=u'.set (0+(IntKind.i64.wrap ((i:Int)+(j:Int))).toNat) (IntKind.u32.wrap (IntKind.u64.wrap (c+IntKind.u64.wrap (IntKind.u64.wrap z+IntKind.u64.wrap v)))):=by
    rw[f1,C,Xaq,Xad,Za8]
   have wi:IntKind.i64.wrap ((i:Int)+1)=((i+1:Nat):Int):=Zan (by omega) (by omega)
   refine⟨(i+1,J/4294967296,u'.set (i+j) (J % 4294967296)),⟨ag,by show 0≤J/4294967296;omega,by show J/4294967296≤1;omega, ?_, ?_, ?_, ?_, ?_⟩,by show n-(i+1)<n-i;omega, ?_⟩
   ·show(u'.set _ _).length=_;simpa using hl
   ·intro y hy
    rcases Xbk hy with hy|rfl
    ·exact hw y hy
    ·omega
   ·show(u'.set _ _).take j=_
    rw[XbA (by omega),ht]
   ·show(u'.set _ _).drop (j+(i+1))=_
    rw[Xbr (by omega),←Xbt,←Xa9,hd,Xa9]
   ·show wv (u'.set (i+j) (J % 4294967296))+4294967296^(j+(i+1))*(J/4294967296)=wv u+4294967296^j*wv (V.take (i+1))
    rw[ZbL U,ev]
    exact Zqn R (by rw[ez];exact ad) I
   ·refine Zas rfl rfl ?_ ?_
    ·exact⟨rfl,aj,rfl,wi.symm,rfl,rfl,⟨rfl,rfl,rfl⟩,rfl,⟨rfl,rfl,rfl⟩,⟨rfl,rfl,rfl⟩,rfl,rfl,trivial⟩
    ·exact⟨⟨er,fun _=>rfl⟩,⟨rfl,fun _=>rfl⟩,⟨rfl,fun _=>rfl⟩,trivial⟩
  ·have he:i=n:=by have:=of_decide_eq_false h;simp only at this;omega
   subst he
   exact⟨rfl,c,u',_,⟨aa,ab,hl,hw,ht,hd,I⟩,rfl,rfl⟩
 ·exact⟨Xao _,XaT _,by show(0:Int)≤1;decide,hu,ae,rfl,rfl,by simp[wv]⟩
theorem Ztq {x y w:Int} {s:Nat} (hs:s≤31) (J:0≤x) (j:x<4294967296) (ab:0≤w) (p A:Int) (h:y+p*(x/2^s)=A/2^s):
 y+p*((w*4294967296+x)/2^s % 4294967296)+p*4294967296*(w/2^s)=(A+p*4294967296*w)/2^s:=by
 have hp:(0:Int)<2^s:=XbB (by decide)
 have hE:(0:Int)<2^(32-s):=XbB (by decide)
 have R:(4294967296:Int)=2^s*2^(32-s):=by rw[←Int.pow_add,show s+(32-s)=32 by omega];rfl
 generalize(2:Int)^s=t at*
 generalize(2:Int)^(32-s)=E at*
 rw[R]at j⊢
 have h1:(w*(t*E)+x)/t=w*E+x/t:=by
  rw[show w*(t*E)+x=x+(w*E)*t by grind,Int.add_mul_ediv_right _ _ (by omega)]
  omega
 have C:0≤x/t:=Int.ediv_nonneg J (by omega)
 have aa:x/t<E:=Int.ediv_lt_of_lt_mul hp (by rw[Int.mul_comm];exact j)
 have I:=XaS w t
 have U:=Int.emod_nonneg w (show t≠0 by omega)
 have ad:=Int.emod_lt_of_pos w hp
 have h2:(w*E+x/t) % (t*E)=(w % t)*E+x/t:=by
  have e:w*E+x/t=(w % t)*E+x/t+(w/t)*(t*E):=by
   have:w*E=(w % t+t*(w/t))*E:=by rw[I]
   rw[this];grind
  rw[e,Int.add_mul_emod_self_right]
  have h3:(w % t)*E≤(t-1)*E:=XaP (by omega) (by omega)
  have h4:(t-1)*E=t*E-E:=by grind
  exact Int.emod_eq_of_lt (Int.add_nonneg (Xbw U (by omega)) C) (by omega)
 have h5:(A+p*(t*E)*w)/t=A/t+p*E*w:=by
  rw[show A+p*(t*E)*w=A+(p*E*w)*t by grind,Int.add_mul_ediv_right _ _ (by omega)]
 rw[h1,h2,h5,←h]
 have h6:p*E*w=p*E*(w % t+t*(w/t)):=by rw[I]
 rw[h6]
 grind
def rC (n m s:Nat) (t:Nat×List Int):TM:=[(4, .ref 2 0 (m-n+1) none),(5, .ref 3 0 n none),(8, .v (.i .i64) (s:Int)),(9, .ref 0 0 (m+1) none),(249, .v (.i .i64) (n:Int)),(250, .v (.i .i64) (t.1:Int))]
def rH (u q r:List Int):List SM:=[.row (.i .u32) u true, .dead, .row (.i .u32) q true, .row (.i .u32) r true]
theorem Zuv (u q:List Int) (n m s:Nat) (hs:s≤31) (hm:m≤1000000) (ad:n≤m) (hu:u.length=m+1) (aa:Wd u):
 LoopOK Tryz.prog Zao 0 ⟨116,0,275⟩ (Za4 Tryz.f116 45) (rC n m s (0,List.replicate n 0)) (rH u q (List.replicate n 0))
 (fun e tm hp=>e= .exit 8∧ ∃ (r:List Int) (X:SV),(r.length=n∧Wd r∧wv r+4294967296^n*(u[n]!/2^s)=wv (u.take (n+1))/2^s)∧tm=(251,X)::rC n m s (n,r)∧hp=rH u q r):=by
 have hp:(0:Int)<2^s:=XbB (by decide)
 have I: ∀i,i≤n→u[i]! =u[i]!∧u[i]? =some u[i]!∧0≤u[i]!∧u[i]! <4294967296:=fun i hi=>by
  have C:i<u.length:=by omega
  have e:u[i]! =u[i]:=getElem!_pos u i C
  have:=aa _ (Xax C)
  rw[e]
  exact⟨rfl,Xac C,this.1,this.2⟩
 refine Zaw Zag rfl (rC n m s) (fun t=>rH u q t.2)
  (fun t=>t.1≤n∧t.2.length=n∧Wd t.2∧wv (t.2.take t.1)+4294967296^t.1*(u[t.1]!/2^s)=wv (u.take (t.1+1))/2^s) (fun t=>n-t.1) ?_ (0,List.replicate n 0) ?_ ZaJ
 ·rintro⟨i,r⟩ ⟨hi,hl,hw,j⟩
  simp only at hi hl hw j
  refine Xaa (fun h=> ?_) (fun h=> ?_)
  ·have C:i<n:=by have:=of_decide_eq_true h;simp only at this;omega
   obtain⟨_,g1,g2,g3⟩:=I i hi
   obtain⟨_,k1,k2,k3⟩:=I (i+1) C
   obtain⟨x,ex⟩: ∃x,u[i]! =x:=⟨_,rfl⟩
   obtain⟨w,ew⟩: ∃w,u[i+1]! =w:=⟨_,rfl⟩
   rw[ex]at g1 g2 g3 j
   rw[ew]at k1 k2 k3
   have ei:IntKind.i64.wrap ((i:Int)+1)=((i+1:Nat):Int):=Zan (by omega) (by omega)
   have R:i<r.length:=by omega
   have em:min (Int.toNat (s:Int)) IntKind.u64.bits=s:=by show min s 64=s;omega
   have eo:=Zh4 k2 k3 g2 g3
   have ab:(IntKind.u64.wrap ((BitVec.ofInt IntKind.u64.bits (IntKind.u64.wrap (IntKind.u64.wrap w*2^min (Int.toNat 32) IntKind.u64.bits))|||BitVec.ofInt IntKind.u64.bits (IntKind.u64.wrap x)).toNat:Int)).fdiv (2^min (Int.toNat (s:Int)) IntKind.u64.bits)=(w*4294967296+x)/2^s:=by
    rw[Zax (x:=w) (by omega) (by omega),eo,em,Int.fdiv_eq_ediv_of_nonneg _ (Xa6 hp)]
   refine Xaa ⟨by rw[ei];omega,by rw[ei];show((i+1:Nat):Int)<((m+1:Nat):Int);omega⟩ ?_
   refine Exists.intro w (Xaa (by show u[0+(IntKind.i64.wrap ((i:Int)+1)).toNat]? =some w;rw[ei,Xaq,Xad];exact k1) ?_)
   refine Xaa (by decide) ?_
   refine Xaa ⟨Xaj i,by show(i:Int)<((m+1:Nat):Int);omega⟩ ?_
   refine Exists.intro x (Xaa (by show u[0+(i:Int).toNat]? =some x;rw[Xaq,Xad];exact g1) ?_)
   refine Xaa (Xaj s) ?_
   refine Xaa ⟨Xaj i,by show(i:Int)<(n:Int);omega⟩ ?_
   refine Exists.intro (r[i]) (Xaa (by show r[0+(i:Int).toNat]? =_;rw[Xaq,Xad];exact Xac R) ?_)
   have er:r.set i ((w*4294967296+x)/2^s % 4294967296)=r.set (0+(i:Int).toNat) (IntKind.u32.wrap ((IntKind.u64.wrap ((BitVec.ofInt IntKind.u64.bits (IntKind.u64.wrap (IntKind.u64.wrap w*2^min (Int.toNat 32) IntKind.u64.bits))|||BitVec.ofInt IntKind.u64.bits (IntKind.u64.wrap x)).toNat:Int)).fdiv (2^min (Int.toNat (s:Int)) IntKind.u64.bits))):=by
    rw[ab,Za8,Xaq,Xad]
   refine⟨(i+1,r.set i ((w*4294967296+x)/2^s % 4294967296)),⟨C, ?_, ?_, ?_⟩,by show n-(i+1)<n-i;omega, ?_⟩
   ·show(r.set _ _).length=_;simpa using hl
   ·intro y hy
    rcases Xbk hy with hy|rfl
    ·exact hw y hy
    ·omega
   ·show wv ((r.set i _).take (i+1))+4294967296^(i+1)*(u[i+1]!/2^s)=wv (u.take (i+1+1))/2^s
    have J:i+1<u.length:=by omega
    have eu:u[i+1]=w:=by rw[←ew];exact(getElem!_pos u (i+1) J).symm
    rw[Zcl R,ZdZ,Xas,XaL (Nat.le_of_lt R),ZbL J,eu,ew,Xba]
    have U: ∀z:Int,wv [z]=z:=fun z=>by simp[wv]
    rw[U]
    exact Ztq hs g2 g3 k2 _ _ j
   ·refine Zas rfl rfl ?_ ?_
    ·exact⟨⟨rfl,rfl,rfl⟩,⟨rfl,rfl,rfl⟩,rfl,⟨rfl,rfl,rfl⟩,rfl,ei.symm,trivial⟩
    ·exact⟨⟨rfl,fun _=>rfl⟩,trivial,⟨rfl,fun _=>rfl⟩,⟨er,fun _=>rfl⟩,trivial⟩
  ·have he:i=n:=by have:=of_decide_eq_false h;simp only at this;omega
   subst he
   rw[Xay (by omega)]at j
   exact⟨rfl,r,_,⟨hl,hw,j⟩,rfl,rfl⟩
 ·refine⟨Xao _,by simp,fun x hx=> ?_, ?_⟩
  ·have:=List.eq_of_mem_replicate hx
   rw[this];decide
  ·have h0:0<u.length:=by omega
   show wv ((List.replicate n (0:Int)).take 0)+4294967296^0*(u[0]!/2^s)=wv (u.take 1)/2^s
   rw[ZbL h0,getElem!_pos u 0 h0]
   simp[wv]
end Go.Proofs.YtapbiodcncnnfaaGreatDoor
namespace Dv
theorem wvn {l:List Int} (h:Wd l):0≤wv l:=(Zbc h).1
theorem Wd.take {l:List Int} (h:Wd l) (n:Nat):Wd (l.take n):=fun x j=>h x (XaH j)
theorem Wd.drop {l:List Int} (h:Wd l) (n:Nat):Wd (l.drop n):=fun x j=>h x (Xbl j)
theorem ZxR (n:Nat):(0:Int)<4294967296^n:=XbB (by decide)
theorem seg (l:List Int) (j:Nat) (C:j≤l.length):wv l=wv (l.take j)+4294967296^j*wv (l.drop j):=by
 conv=>lhs;rw[←XaR j l]
 rw[ZdZ,Xas,XaL C]
theorem ZcO {l:List Int} {k:Nat} (h:k<l.length):wv (l.drop k)=l[k]+4294967296*wv (l.drop (k+1)):=by
 rw[Xaz h];rfl
theorem Zjj {l:List Int} {n:Nat} (hw:Wd l) (h:wv l<4294967296^n):wv (l.drop n)=0:=by
 rcases XaO l.length n with h1|h1
 ·rw[XbJ (by omega)];rfl
 ·have j:=seg l n h1
  have C:=wvn (hw.take n)
  have I:=wvn (hw.drop n)
  rcases Int.lt_or_le (wv (l.drop n)) 1 with h5|h5
  ·omega
  ·have J:=Xbe h5 (Xa6 (ZxR n))
   omega
theorem ZtN {l:List Int} {n:Nat} (hw:Wd l) (h:wv (l.drop n)=0):wv l<4294967296^n:=by
 rcases XaO l.length n with h1|h1
 ·have:=(Zbc hw).2
  have j:(4294967296:Int)^l.length≤4294967296^n:=ZgS (b:=4294967296) (by decide) (by omega)
  omega
 ·have j:=seg l n h1
  rw[h]at j
  have C:=(Zbc (hw.take n)).2
  rw[Xas,XaL h1]at C
  omega
theorem Zso {V:List Int} {n:Nat} (j:2≤n) (C:n≤V.length):wv (V.take n)=(V[n-1]'(by omega)*4294967296+V[n-2]'(by omega))*4294967296^(n-2)+wv (V.take (n-2)):=by
 obtain⟨k,rfl⟩: ∃k,n=k+2:=⟨n-2,by omega⟩
 rw[ZbL (show k+1<V.length by omega),ZbL (show k<V.length by omega),Xba]
 simp only[Nat.add_sub_cancel,show k+2-1=k+1 by omega]
 generalize V[k+1]=x
 generalize V[k]=y
 generalize(4294967296:Int)^k=p
 grind
theorem Zrc {u:List Int} {n j:Nat} (R:2≤n) (hu:j+n<u.length) (hw:Wd u) (C:wv (u.drop (j+n+1))=0):
 wv (u.drop j)=((u[j+n]*4294967296+u[j+n-1]'(by omega))*4294967296+u[j+n-2]'(by omega))*4294967296^(n-2)+wv ((u.drop j).take (n-2)):=by
 obtain⟨k,rfl⟩: ∃k,n=k+2:=⟨n-2,by omega⟩
 rw[seg (u.drop j) k (by rw[XaZ];omega),Xa9,ZcO (show j+k<u.length by omega),ZcO (show j+k+1<u.length by omega),ZcO (show j+k+1+1<u.length by omega),show j+k+1+1+1=j+(k+2)+1 by omega,C]
 simp only[Nat.add_sub_cancel,show j+(k+2)-1=j+k+1 by omega,show j+(k+2)-2=j+k by omega,show j+(k+2)=j+k+1+1 by omega]
 obtain⟨x,I⟩: ∃x,u[j+k+1+1]'(by omega)=x:=⟨_,rfl⟩
 obtain⟨y,J⟩: ∃y,u[j+k+1]'(by omega)=y:=⟨_,rfl⟩
 obtain⟨z,C⟩: ∃z,u[j+k]'(by omega)=z:=⟨_,rfl⟩
 simp only[I,J,C]
 generalize(4294967296:Int)^k=p
 grind
theorem ZyV {U D top u2 v1 v2 P U' V':Int} (j:0<P) (eD:D=(v1*4294967296+v2)*P+V') (C:V'<P) (I:v2<4294967296) (eU:U=(top*4294967296+u2)*P+U') (J:0≤U') (R:0≤u2) (aa:U<D*4294967296):top<(v1+1)*4294967296:=by
 have h1:D<(v1+1)*4294967296*P:=by
  have:(v2+1)*P≤4294967296*P:=XaP (by omega) (Xa6 j)
  have e:(v1+1)*4294967296*P=v1*4294967296*P+4294967296*P:=by grind
  have e2:(v1*4294967296+v2)*P=v1*4294967296*P+v2*P:=by grind
  have e3:(v2+1)*P=v2*P+P:=by grind
  omega
 have h2:top*(4294967296*P)<(v1+1)*4294967296*(4294967296*P):=by
  have e:(top*4294967296+u2)*P=top*(4294967296*P)+u2*P:=by grind
  have:0≤u2*P:=Xbw R (Xa6 j)
  have e2:(v1+1)*4294967296*(4294967296*P)=(v1+1)*4294967296*P*4294967296:=by grind
  omega
 exact Int.lt_of_mul_lt_mul_right h2 (by omega)
theorem ZrN {u u':List Int} {j n:Nat} {g D bo ca z b2:Int} (hl:u'.length=u.length) (hj:j+n<u.length) (I:u'.take j=u.take j) (J:u'[j+n]'(by omega)=z) (hb:b2=bo+(z-ca))
 (h:wv u'+4294967296^(j+n)*bo=wv u-4294967296^j*(g*D)+4294967296^(j+n)*ca):
 wv ((u'.set (j+n) (b2 % 4294967296)).drop j)+4294967296^(n+1)*(b2/4294967296)=wv (u.drop j)-g*D:=by
 have h1:=seg u j (by omega)
 have C:=seg (u'.set (j+n) (b2 % 4294967296)) j (by rw[XaN];omega)
 rw[XbA (by omega),I,Zoq (by omega),J]at C
 have e1:=XaS b2 4294967296
 have R:b2 % 4294967296=b2-4294967296*(b2/4294967296):=by omega
 have U:(4294967296:Int)^(j+n)=4294967296^j*4294967296^n:=Int.pow_add ..
 have e4:(4294967296:Int)^(n+1)=4294967296^n*4294967296:=Xba ..
 generalize wv ((u'.set (j+n) (b2 % 4294967296)).drop j)=X at*
 rw[U]at h C
 rw[R]at C
 rw[e4]
 have hp:=ZxR j
 generalize(4294967296:Int)^j=p at*
 generalize(4294967296:Int)^n=r at*
 generalize b2/4294967296=y at*
 have:p*(X+r*4294967296*y)=p*(wv (u.drop j)-g*D):=by grind
 exact Int.eq_of_mul_eq_mul_left (by omega) this
theorem Ztb {u u':List Int} {j n:Nat} {D c z y:Int} (C:u'.length=u.length) (I:j+n<u.length) (J:u'.take j=u.take j) (R:u'[j+n]'(by omega)=z) (U:y=z+c)
 (h:wv u'+4294967296^(j+n)*c=wv u+4294967296^j*D):
 wv ((u'.set (j+n) (y % 4294967296)).drop j)+4294967296^(n+1)*(y/4294967296)=wv (u.drop j)+D:=by
 have:=ZrN (g:= -1) (D:=D) (bo:=c) (ca:=0) (b2:=y) C I J R (by omega) (by
  rw[h,Int.neg_mul,Int.one_mul,Int.mul_neg,Int.mul_zero];omega)
 rw[this];omega
theorem ZsO {b V:List Int} {n s:Nat} {x:Int} (hn:2≤n) (hb:b.length=n) (aa:Wd b) (hx:b[n-1]? =some x) (hs:s≤31) (h1:x*2^s<4294967296) (h2:2147483648≤x*2^s) (hV:V.length=n+1) (C:Wd V) (hv:wv V=wv b*2^s):
 wv (V.take n)=wv b*2^s∧2147483648≤V[n-1]'(by omega)∧4294967296^(n-1)*2147483648≤wv b*2^s:=by
 obtain⟨k,rfl⟩: ∃k,n=k+1:=⟨n-1,by omega⟩
 simp only[Nat.add_sub_cancel]at hx⊢
 obtain⟨hk,hx⟩:=Xae.1 hx
 have hp:(0:Int)<2^s:=XbB (by decide)
 have hE:(0:Int)<2^(32-s):=XbB (by decide)
 have I:(4294967296:Int)=2^s*2^(32-s):=by rw[←Int.pow_add,show s+(32-s)=32 by omega];rfl
 have ab:wv b=wv (b.take k)+4294967296^k*x:=by
  have:=ZbL hk
  rw[Xay (by omega),hx]at this
  exact this
 have J:=Zbc (aa.take k)
 rw[Xas,XaL (by omega)]at J
 have j:=ZxR k
 have ad:(x+1)*2^s≤4294967296:=by
  have h3:x<2^(32-s):=by
   rw[I,Int.mul_comm]at h1
   exact Int.lt_of_mul_lt_mul_left h1 (Xa6 hp)
  rw[I,Int.mul_comm]
  exact Xbe (by omega) (Xa6 hp)
 have R:4294967296^k*2147483648≤wv b*2^s:=by
  have h3:=Xbe h2 (Xa6 j)
  have h4:0≤wv (b.take k)*2^s:=Xbw J.1 (Xa6 hp)
  have h5:wv b*2^s=wv (b.take k)*2^s+4294967296^k*(x*2^s):=by rw[ab];grind
  omega
 have ae:wv b*2^s<4294967296^(k+1):=by
  have h3:wv b<4294967296^k*(x+1):=by rw[XbI];omega
  have h4:=Int.mul_lt_mul_of_pos_right h3 hp
  have h5:=Xbe ad (Xa6 j)
  rw[Xbx]at h4
  rw[Xba]
  omega
 have hz:=Zjj (n:=k+1) C (by rw[hv];exact ae)
 have U:wv (V.take (k+1))=wv b*2^s:=by
  have:=seg V (k+1) (by omega)
  rw[hz,Int.mul_zero,Int.add_zero]at this
  rw[←this,hv]
 refine⟨U, ?_,R⟩
 have af:k<V.length:=by omega
 have h6:=ZbL af
 have h7:=Zbc (C.take k)
 rw[Xas,XaL (by omega)]at h7
 rw[U]at h6
 have h8:4294967296^k*2147483648<4294967296^k*(V[k]+1):=by rw[XbI];omega
 have:=Int.lt_of_mul_lt_mul_left h8 (Xa6 j)
 omega
theorem Zti {a u:List Int} {m k s n:Nat} (R:a.length=m) (j:Wd a) (U:s≤31) (hu:u.length=m+1) (C:Wd u) (hv:wv u=wv a*2^s) (hk:k+n=m+1) (hn:1≤n) {D:Int} (hD:4294967296^(n-1)*2147483648≤D):wv (u.drop k)<D:=by
 have hp:(0:Int)<2^s:=XbB (by decide)
 have I:(2:Int)^s≤2^31:=ZgS (b:=2) (by decide) U
 have h1:=seg u k (by omega)
 have h2:=wvn (C.take k)
 have J:=(Zbc j).2
 rw[R]at J
 have h4:=Int.mul_lt_mul_of_pos_right J hp
 have e1:(4294967296:Int)^m=4294967296^k*4294967296^(n-1):=by rw[←Int.pow_add,show k+(n-1)=m by omega]
 rw[e1,Xbx]at h4
 have h5:4294967296^k*wv (u.drop k)<4294967296^k*(4294967296^(n-1)*2^s):=by omega
 have h6:=Int.lt_of_mul_lt_mul_left h5 (Xa6 (ZxR k))
 have h7:=Xbe I (Xa6 (ZxR (n-1)))
 have e2:(2:Int)^31=2147483648:=rfl
 rw[e2]at h7
 omega
theorem ZpU {A B Q R:Int} {s:Nat} (hB:0<B) (h:A*2^s=B*2^s*Q+R) (J:0≤R) (j:R<B*2^s):Q=A/B∧R/2^s=A % B:=by
 have hp:(0:Int)<2^s:=XbB (by decide)
 generalize(2:Int)^s=t at*
 have hR:R=(A-B*Q)*t:=by grind
 have I:0≤A-B*Q:=by
  rcases Int.lt_or_le (A-B*Q) 0 with h3|h3
  ·have:=Int.mul_lt_mul_of_pos_right h3 hp
   rw[Int.zero_mul]at this
   omega
  ·exact h3
 have h3:A-B*Q<B:=by
  rw[hR]at j
  exact Int.lt_of_mul_lt_mul_right j (Xa6 hp)
 have C:A/B=Q:=by
  have:=Int.add_mul_ediv_left (A-B*Q) Q (show B≠0 by omega)
  rw[Int.ediv_eq_zero_of_lt I h3,show A-B*Q+B*Q=A by omega]at this
  omega
 refine⟨C.symm, ?_⟩
 rw[hR,Int.mul_ediv_cancel _ (by omega)]
 have:=XaS A B
 rw[C]at this
 omega
end Dv
namespace Go.Proofs.YtapbiodcncnnfaaGreatDoor
open Go.Am Go.Tx Dv
def oC (a b:List Int) (n m s:Nat) (t:Nat×List Int×List Int):TM:=dB a b n m s ((t.1:Int)-1)
theorem Zxt (a b:List Int) (n m s j:Nat) (u q:List Int):oC a b n m s (j+1,u,q)=dB a b n m s (j:Int):=by
 show dB a b n m s (((j+1:Nat):Int)-1)=_
 rw[show((j+1:Nat):Int)-1=(j:Int)by omega]
def DInv (V:List Int) (n m:Nat) (U0:Int) (t:Nat×List Int×List Int):Prop:=
 t.1≤m-n+1∧t.2.1.length=m+1∧Wd t.2.1∧t.2.2.length=m-n+1∧Wd (t.2.2.drop t.1)∧wv (t.2.1.drop t.1)<wv (V.take n)∧U0=wv (V.take n)*(4294967296^t.1*wv (t.2.2.drop t.1))+wv t.2.1
theorem Zmk {V u C q:List Int} {n m j:Nat} {U0 d:Int} (h:DInv V n m U0 (j+1,u,q)) (hj:j+n≤m) (J:n≤m) (R:C.length=m+1) (U:Wd C) (h3:C.take j=u.take j) (h4:wv (C.drop j)=wv (u.drop j)-d*wv (V.take n)) (h5:wv (C.drop j)<wv (V.take n)) (hd:0≤d∧d<4294967296):DInv V n m U0 (j,C,q.set j d):=by
 obtain⟨i1,i2,i3,i4,i5,i6,i7⟩:=h
 simp only at i1 i2 i3 i4 i5 i6 i7
 have hq:j<q.length:=by omega
 have I:(q.set j d).drop j=d::q.drop (j+1):=by
  rw[Xaz (by rw[XaN];omega),List.getElem_set_self,Xbr (by omega)]
 refine⟨by show j≤_;omega,R,U,by show(q.set j d).length=_;rw[XaN];exact i4, ?_,h5, ?_⟩
 ·show Wd ((q.set j d).drop j)
  rw[I]
  intro x hx
  rcases Xav.1 hx with rfl|hx
  ·exact hd
  ·exact i5 x hx
 ·show U0=wv (V.take n)*(4294967296^j*wv ((q.set j d).drop j))+wv C
  rw[I,wv,i7,seg u j (by omega),seg C j (by omega),h3,h4,Xba]
  generalize(4294967296:Int)^j=p
  generalize wv (V.take n)=D
  generalize wv (q.drop (j+1))=y
  generalize wv (u.drop j)=z
  grind
theorem Zrz (a b u V q:List Int) (n m s:Nat) (U0:Int) (hn:2≤n) (hm:m≤900000) (aa:n≤m) (hV:V.length=n+1) (R:Wd V) (bc:2147483648≤V[n-1]'(by omega)) (h0:DInv V n m U0 (m-n+1,u,q)):
 LoopOK Tryz.prog Zao 0 ⟨116,0,275⟩ (Za4 Tryz.f116 11) (oC a b n m s (m-n+1,u,q)) (dH u V q)
 (fun e tm hp=>e= .exit 0∧ ∃ (u' q':List Int) (X Y:SV),DInv V n m U0 (0,u',q')∧tm=(70,X)::(69,Y)::oC a b n m s (0,u',q')∧hp=dH u' V q'):=by
 have ao:n-1<V.length:=by omega
 have aq:n-2<V.length:=by omega
 obtain⟨v1,au⟩: ∃v1,V[n-1]=v1:=⟨_,rfl⟩
 obtain⟨v2,av⟩: ∃v2,V[n-2]=v2:=⟨_,rfl⟩
 have bd:V[n-1]? =some v1:=by rw[←au];exact Xac ao
 have bu:V[n-2]? =some v2:=by rw[←av];exact Xac aq
 have bf:=R _ (Xax ao)
 have aj:=R _ (Xax aq)
 rw[au]at bc bf
 rw[av]at aj
 have eD:=Zso hn (show n≤V.length by omega)
 rw[au,av]at eD
 obtain⟨D,J⟩: ∃D,wv (V.take n)=D:=⟨_,rfl⟩
 obtain⟨P,ab⟩: ∃P:Int,4294967296^(n-2)=P:=⟨_,rfl⟩
 have hP:0<P:=ab▸ZxR _
 have ak:=Zbc (R.take (n-2))
 rw[Xas,XaL (by omega),ab]at ak
 rw[J,ab]at eD
 have b8:D<4294967296^n:=by
  have:=(Zbc (R.take n)).2
  rw[Xas,XaL (by omega),J]at this
  exact this
 have b9:0<D:=by
  have h1:0<(v1*4294967296+v2)*P:=Int.mul_pos (by omega) hP
  omega
 have bg:IntKind.i64.wrap ((n:Int)-1)=((n-1:Nat):Int):=by rw[Zan (by omega) (by omega)];omega
 have aw:IntKind.u64.wrap v1=v1:=Zax (by omega) (by omega)
 refine Zaw Zag rfl (oC a b n m s) (fun t=>dH t.2.1 V t.2.2) (DInv V n m U0) (fun t=>t.1) ?_ (m-n+1,u,q) h0 ZaJ
 rintro⟨k,u,q⟩ hI
 rcases k with _|j
 ·refine Xaa (fun h=> ?_) (fun h=> ?_)
  ·have h':(0:Int)≤((0:Nat):Int)-1:=of_decide_eq_true h
   omega
  ·exact⟨rfl,u,q,_,_,hI,rfl,rfl⟩
 ·have bh:=hI
  obtain⟨i1,i2,i3,i4,i5,i6,i7⟩:=hI
  simp only at i1 i2 i3 i4 i5 i6 i7
  rw[J]at i6
  have ad:j+n≤m:=by omega
  rw[Zxt]
  have bw:wv (u.drop (j+1+n))=0:=by
   rw[←Xa9]
   exact Zjj (i3.drop (j+1)) (by omega)
  have hz:wv (u.drop (j+n+1))=0:=by rw[show j+n+1=j+1+n by omega];exact bw
  have l0:j+n<u.length:=by omega
  have l1:j+n-1<u.length:=by omega
  have l2:j+n-2<u.length:=by omega
  obtain⟨I,ax⟩: ∃x,u[j+n]=x:=⟨_,rfl⟩
  obtain⟨u1,ay⟩: ∃x,u[j+n-1]=x:=⟨_,rfl⟩
  obtain⟨u2,az⟩: ∃x,u[j+n-2]=x:=⟨_,rfl⟩
  have a1:=i3 _ (Xax l0)
  have a6:=i3 _ (Xax l1)
  have al:=i3 _ (Xax l2)
  have bk:u[j+n]? =some I:=by rw[←ax];exact Xac l0
  have bx:u[j+n-1]? =some u1:=by rw[←ay];exact Xac l1
  have bz:u[j+n-2]? =some u2:=by rw[←az];exact Xac l2
  rw[ax]at a1
  rw[ay]at a6
  rw[az]at al
  have eU:=Zrc hn l0 i3 hz
  rw[ax,ay,az,ab]at eU
  obtain⟨U,ae⟩: ∃U,wv (u.drop j)=U:=⟨_,rfl⟩
  rw[ae]at eU
  have an:=Zbc ((i3.drop j).take (n-2))
  rw[Xas,XaZ,XaL (by omega),ab]at an
  have bl:U<D*4294967296:=by
   have h1:=ZcO (show j<u.length by omega)
   have h2:=i3 _ (Xax (show j<u.length by omega))
   omega
  obtain⟨top,ar⟩: ∃top,top=I*4294967296+u1:=⟨_,rfl⟩
  rw[←ar]at eU
  have bm:=ZyV hP eD ak.2 aj.2 eU an.1 al.1 bl
  have af:IntKind.i64.wrap ((j:Int)+(n:Int))=((j+n:Nat):Int):=Zan (by omega) (by omega)
  have ag:IntKind.i64.wrap (IntKind.i64.wrap ((j:Int)+(n:Int))-1)=((j+n-1:Nat):Int):=by rw[af,Zan (by omega) (by omega)];omega
  have a7:top=IntKind.u64.wrap ((BitVec.ofInt IntKind.u64.bits (IntKind.u64.wrap (IntKind.u64.wrap I*2^min (Int.toNat 32) IntKind.u64.bits))|||BitVec.ofInt IntKind.u64.bits (IntKind.u64.wrap u1)).toNat:Int):=by
   rw[Zax (x:=I) (by omega) (by omega),Zh4 a1.1 a1.2 a6.1 a6.2,ar]
  have C:0≤top:=by omega
  have b0:top<18446744073709551616:=by omega
  have b1:top/v1=IntKind.u64.wrap ((IntKind.u64.wrap ((BitVec.ofInt IntKind.u64.bits (IntKind.u64.wrap (IntKind.u64.wrap I*2^min (Int.toNat 32) IntKind.u64.bits))|||BitVec.ofInt IntKind.u64.bits (IntKind.u64.wrap u1)).toNat:Int)).tdiv (IntKind.u64.wrap v1)):=by
   have:top/v1≤top:=Int.ediv_le_self _ C
   rw[←a7,aw,Int.tdiv_eq_ediv_of_nonneg C,Zax (Int.ediv_nonneg C (by omega)) (by omega)]
  have b3:top % v1=(IntKind.u64.wrap ((BitVec.ofInt IntKind.u64.bits (IntKind.u64.wrap (IntKind.u64.wrap I*2^min (Int.toNat 32) IntKind.u64.bits))|||BitVec.ofInt IntKind.u64.bits (IntKind.u64.wrap u1)).toNat:Int)).tmod (IntKind.u64.wrap v1):=by
   rw[←a7,aw,XbE C]
  refine Xaa (fun h=> ?_) (fun h=> ?_)
  rotate_left
  ·have h': ¬ (0:Int)≤(j:Int):=of_decide_eq_false h
   omega
  have xu: ∀ (w:List Int) (x:Int),w[j+n]? =some x→w[0+(IntKind.i64.wrap ((j:Int)+(n:Int))).toNat]? =some x:=fun w x hx=>by rw[af,Xaq,Xad];exact hx
  have bi:(0:Int)≤IntKind.i64.wrap ((j:Int)+(n:Int))∧IntKind.i64.wrap ((j:Int)+(n:Int))<((m+1:Nat):Int):=by rw[af];omega
  have bn:(0:Int)≤IntKind.i64.wrap ((n:Int)-1)∧IntKind.i64.wrap ((n:Int)-1)<(n:Int):=by rw[bg];omega
  have xv:V[0+(IntKind.i64.wrap ((n:Int)-1)).toNat]? =some v1:=by rw[bg,Xaq,Xad];exact bd
  have bp:IntKind.u64.wrap v1≠0:=by rw[aw];omega
  refine Xaa bi ?_
  refine Exists.intro I (Xaa (xu u I bk) ?_)
  refine Xaa (by decide) ?_
  refine Xaa ⟨by rw[ag];omega,by rw[ag];show((j+n-1:Nat):Int)<((m+1:Nat):Int);omega⟩ ?_
  refine Exists.intro u1 (Xaa (by show u[0+(IntKind.i64.wrap (IntKind.i64.wrap ((j:Int)+(n:Int))-1)).toNat]? =some u1;rw[ag,Xaq,Xad];exact bx) ?_)
  refine Xaa bn ?_
  refine Exists.intro v1 (Xaa xv ?_)
  refine Xaa bp ?_
  refine Xaa bn ?_
  refine Exists.intro v1 (Xaa xv ?_)
  refine Xaa bp ?_
  refine((ZrC a b u V q n m s j top D U P _ _ v1 v2 u2 hn (by omega) ad aa i2 hV bd bu bz hP eD ak.1 ak.2 bc bf.2 aj.1 aj.2 eU an.1 an.2 al.1 al.2 C bm bl).ent ?_).through ?_
  ·refine Zas rfl rfl ?_ ?_
   ·exact⟨a7,b1,b3,rfl,rfl,⟨rfl,rfl,rfl⟩,rfl,⟨rfl,rfl,rfl⟩,⟨rfl,rfl,rfl⟩,rfl,rfl,trivial⟩
   ·exact⟨⟨rfl,fun _=>rfl⟩,⟨rfl,fun _=>rfl⟩,⟨rfl,fun _=>rfl⟩,trivial⟩
  rintro _ tm hp ⟨rfl,g,rest,⟨g0,g1,gU,gL⟩,hE⟩
  refine⟨_,_,hE, ?_⟩
  refine((Zuj a b u V q n m s j g (by omega) ad aa i2 i3 hV R g0 g1).ent ?_).mono ?_
  ·refine Zas rfl rfl ?_ ?_
   ·exact⟨rfl,rfl,rfl,rfl,rfl,rfl,rfl,⟨rfl,rfl,rfl⟩,rfl,⟨rfl,rfl,rfl⟩,⟨rfl,rfl,rfl⟩,rfl,rfl,trivial⟩
   ·exact⟨⟨rfl,fun _=>rfl⟩,⟨rfl,fun _=>rfl⟩,⟨rfl,fun _=>rfl⟩,trivial⟩
  rintro _ _ _ ⟨rfl,bo,ca,u',X,⟨k1,k2,k3,k4,k5,k6,k7,k8,k9⟩,rfl,rfl⟩
  rw[J]at k9
  have cb:j+n<u'.length:=by omega
  have gz:u'[j+n]? =some I:=by
   have e1:(u'.drop (j+n))[0]? =(u.drop (j+n))[0]? :=by rw[k8]
   rw[Xbv,Xbv,Nat.add_zero]at e1
   rw[e1];exact bk
  have ez:u'[j+n]=I:=by
   obtain⟨_,h⟩:=Xae.1 gz
   exact h
  obtain⟨b2,bq⟩: ∃b2,b2=bo+(I-ca):=⟨_,rfl⟩
  have f16:IntKind.i64.wrap (bo+IntKind.i64.wrap (IntKind.i64.wrap I-IntKind.i64.wrap ca))=b2:=by
   rw[Zan (x:=I) (by omega) (by omega),Zan (x:=ca) (by omega) (by omega),Zan (x:=I-ca) (by omega) (by omega),Zan (by omega) (by omega),bq]
  have er:u'.set (j+n) (b2 % 4294967296)=u'.set (0+(IntKind.i64.wrap ((j:Int)+(n:Int))).toNat) (IntKind.u32.wrap (IntKind.i64.wrap (bo+IntKind.i64.wrap (IntKind.i64.wrap I-IntKind.i64.wrap ca)))):=by
   rw[f16,af,Xaq,Xad,Za8]
  have ah:=ZrN (u:=u) (u':=u') (z:=I) (b2:=b2) (by omega) l0 k7 ez bq k9
  rw[ae]at ah
  obtain⟨w,ew⟩: ∃w,u'.set (j+n) (b2 % 4294967296)=w:=⟨_,rfl⟩
  have wl:w.length=m+1:=by rw[←ew,XaN];exact k5
  have ww:Wd w:=by
   rw[←ew]
   intro y hy
   rcases Xbk hy with hy|rfl
   ·exact k6 y hy
   ·omega
  have wt:w.take j=u.take j:=by rw[←ew,XbA (by omega),k7]
  have wd:w.drop (j+n+1)=u.drop (j+n+1):=by
   rw[←ew,Xbr (by omega),←Xa9,k8,Xa9]
  have wz:wv (w.drop j)<4294967296^(n+1):=ZtN (ww.drop j) (by rw[Xa9,show j+(n+1)=j+n+1 by omega,wd];exact hz)
  rw[ew]at er ah
  have wn:=wvn (ww.drop j)
  have wi:IntKind.i64.wrap ((j:Int)-1)=(j:Int)-1:=Zan (by omega) (by omega)
  have cc:=ZxR (n+1)
  have bj:(0:Int)≤(j:Int)∧(j:Int)<((m-n+1:Nat):Int):=by omega
  have ql:j<q.length:=by omega
  have gq:q[0+(j:Int).toNat]? =some q[j]:=by rw[Xaq,Xad];exact Xac ql
  have br: ∀d:Int,0≤d→d<4294967296→q.set j d=q.set (0+(j:Int).toNat) (IntKind.u32.wrap d):=fun d b4 b5=>by rw[Xaq,Xad,Za8,Int.emod_eq_of_lt b4 b5]
  refine Xaa bi ?_
  refine Exists.intro I (Xaa (xu u' I gz) ?_)
  refine Xaa bi ?_
  refine Exists.intro I (Xaa (xu u' I gz) ?_)
  refine Xaa (fun h2=> ?_) (fun h2=> ?_)
  ·have a8:IntKind.i64.wrap (bo+IntKind.i64.wrap (IntKind.i64.wrap I-IntKind.i64.wrap ca))<0:=of_decide_eq_true h2
   rw[f16]at a8
   have hdiv:b2/4294967296= -1:=by omega
   rw[hdiv]at ah
   have fg:IntKind.u64.wrap (g-1)=g-1∧1≤g:=by
    have:1≤g:=by
     rcases Int.lt_or_le g 1 with h|h
     ·have b6:g=0:=by omega
      subst b6
      have cd:0≤U:=ae▸wvn (i3.drop j)
      rw[Int.zero_mul]at ah
      omega
     ·exact h
    exact⟨Zax (by omega) (by omega),this⟩
   refine((ZsM a b w V q n m s j (g-1) (by omega) ad aa wl ww hV R).ent ?_).mono ?_
   ·refine Zas rfl rfl ?_ ?_
    ·exact⟨fg.1.symm,rfl,rfl,rfl,rfl,rfl,⟨rfl,rfl,rfl⟩,rfl,⟨rfl,rfl,rfl⟩,⟨rfl,rfl,rfl⟩,rfl,rfl,trivial⟩
    ·exact⟨⟨er,fun _=>rfl⟩,⟨rfl,fun _=>rfl⟩,⟨rfl,fun _=>rfl⟩,trivial⟩
   rintro _ _ _ ⟨rfl,c,u3,X3,⟨c1,c2,c3,c4,c5,c6,c7⟩,rfl,rfl⟩
   rw[J]at c7
   have l3:j+n<u3.length:=by omega
   obtain⟨z3,ba⟩: ∃z,u3[j+n]=z:=⟨_,rfl⟩
   have bs:u3[j+n]? =some z3:=by rw[←ba];exact Xac l3
   have b7:=c4 _ (Xax l3)
   rw[ba]at b7
   obtain⟨y,ey⟩: ∃y,y=z3+c:=⟨_,rfl⟩
   have bb:=Ztb (u:=w) (u':=u3) (y:=y) (by omega) (by omega) c5 ba ey c7
   have bt:u3.set (j+n) (y % 4294967296)=u3.set (0+(IntKind.i64.wrap ((j:Int)+(n:Int))).toNat) (IntKind.u32.wrap (z3+IntKind.u32.wrap c)):=by
    rw[af,Xaq,Xad,Za8 c,Za8,Int.emod_eq_of_lt c1 (by omega),ey]
   obtain⟨u4,ai⟩: ∃u4,u3.set (j+n) (y % 4294967296)=u4:=⟨_,rfl⟩
   have l4:u4.length=m+1:=by rw[←ai,XaN];exact c3
   have w4:Wd u4:=by
    rw[←ai]
    intro x hx
    rcases Xbk hx with hx|rfl
    ·exact c4 x hx
    ·omega
   have t4:u4.take j=u.take j:=by rw[←ai,XbA (by omega),c5,wt]
   have d4:u4.drop (j+n+1)=u.drop (j+n+1):=by
    rw[←ai,Xbr (by omega),←Xa9,c6,Xa9,wd]
   have z4:wv (u4.drop j)<4294967296^(n+1):=ZtN (w4.drop j) (by rw[Xa9,show j+(n+1)=j+n+1 by omega,d4];exact hz)
   have n4:=wvn (w4.drop j)
   rw[ai]at bt bb
   have cf:(g-1)*D=g*D-D:=by grind
   have hy:y/4294967296=1:=by
    rcases(show y/4294967296=0∨y/4294967296=1 by omega)with h|h
    ·rw[h]at bb;omega
    ·exact h
   rw[hy]at bb
   have h4:wv (u4.drop j)=U-(g-1)*D:=by omega
   refine Xaa bi ?_
   refine Exists.intro z3 (Xaa (xu u3 z3 bs) ?_)
   refine Xaa bi ?_
   refine Exists.intro z3 (Xaa (xu u3 z3 bs) ?_)
   refine Xaa bj ?_
   refine Exists.intro (q[j]) (Xaa gq ?_)
   refine⟨(j,u4,q.set j (g-1)),Zmk bh ad aa l4 w4 t4 (by rw[ae,J];exact h4) (by rw[J];omega) ⟨by omega,by omega⟩,Nat.lt_succ_self j, ?_⟩
   refine Zas rfl rfl ?_ ?_
   ·exact⟨rfl,rfl,⟨rfl,rfl,rfl⟩,rfl,⟨rfl,rfl,rfl⟩,⟨rfl,rfl,rfl⟩,rfl,wi.symm,trivial⟩
   ·exact⟨⟨bt,fun _=>rfl⟩,⟨rfl,fun _=>rfl⟩,⟨br _ (by omega) (by omega),fun _=>rfl⟩,trivial⟩
  ·have a8: ¬IntKind.i64.wrap (bo+IntKind.i64.wrap (IntKind.i64.wrap I-IntKind.i64.wrap ca))<0:=of_decide_eq_false h2
   rw[f16]at a8
   have hdiv:b2/4294967296=0:=by omega
   rw[hdiv]at ah
   refine Xaa bj ?_
   refine Exists.intro (q[j]) (Xaa gq ?_)
   refine⟨(j,w,q.set j g),Zmk bh ad aa wl ww wt (by rw[ae,J];omega) (by rw[J];omega) ⟨g0,g1⟩,Nat.lt_succ_self j, ?_⟩
   refine Zas rfl rfl ?_ ?_
   ·exact⟨rfl,rfl,⟨rfl,rfl,rfl⟩,rfl,⟨rfl,rfl,rfl⟩,⟨rfl,rfl,rfl⟩,rfl,wi.symm,trivial⟩
   ·exact⟨⟨er,fun _=>rfl⟩,⟨rfl,fun _=>rfl⟩,⟨br _ g0 g1,fun _=>rfl⟩,trivial⟩
theorem Zp9 (a b:List Int) (ha:Wd a) (hb:Wd b) (hl:a.length≤1000000) (ae:b.length≤1000000):PureOK Tryz.prog Zao 92 [Zby a,Zby b] (fun V=> ∃r:Int,V= .v (.i .i64) r∧(a.length≠b.length→r=a.length-b.length)∧(a.length=b.length→(r<0↔wv a<wv b)∧(r=0↔wv a=wv b))):=by
 refine Zai Zag Tryz.func92 ?_
 refine Xaa (fun h=> ?_) (fun h=> ?_)
 ·have R:a.length≠b.length:=fun e=>by
   have I:(!decide ((a.length:Int)=b.length))=true:=h
   rw[e]at I;simp at I
  exact⟨_,rfl,fun _=>Zan (by omega) (by omega),fun e=>absurd e R⟩
 ·have j:a.length=b.length:=by have I:(a.length:Int)=b.length:=by simpa using h
                               omega
  refine Zaw Zag rfl (fun(k:Nat)=> [(0,Zby a),(1,Zby b),(5, .v (.i .i64) ((k:Int)-1))]) (fun _=> [])
   (fun k=>k≤a.length∧a.drop k=b.drop k) (fun k=>k) ?_ a.length ?_ ?_
  ·rintro k ⟨hk,J⟩
   refine Xaa (fun h=> ?_) (fun h=> ?_)
   ·have af:1≤k:=by have:=of_decide_eq_true h;omega
    obtain⟨m,rfl⟩: ∃m,k=m+1:=⟨k-1,by omega⟩
    have hm:m<a.length:=by omega
    have ix:(((m+1:Nat):Int)-1).toNat=m:=by omega
    have C:(0:Int)≤((m+1:Nat):Int)-1:=by omega
    have U:a[(((m+1:Nat):Int)-1).toNat]? =some a[m]:=by rw[ix];exact Xac hm
    have aa:b[(((m+1:Nat):Int)-1).toNat]? =some b[m]:=by rw[ix];exact Xac (by omega)
    refine⟨a[m],C,U, ?_⟩
    refine⟨b[m],C,aa, ?_⟩
    refine Xaa (fun h2=> ?_) (fun h2=> ?_)
    ·refine⟨a[m],C,U, ?_⟩
     refine⟨b[m],C,aa, ?_⟩
     refine Xaa (fun h3=> ?_) (fun h3=> ?_)
     ·have ab:a[m]<b[m]:=of_decide_eq_true h3
      have hv:=Zrp ha hb hm j J ab
      exact⟨-1,rfl,fun e=>absurd j e,fun _=>⟨by omega,by omega⟩⟩
     ·have ag: ¬a[m]<b[m]:=of_decide_eq_false h3
      have R:a[m]≠b[m]:=fun e=>by
       have I:(!decide (a[m]=b[m]))=true:=h2
       rw[e]at I;simp at I
      have hv:=Zrp hb ha (by omega:m<b.length) j.symm J.symm (by omega)
      exact⟨1,rfl,fun e=>absurd j e,fun _=>⟨by omega,by omega⟩⟩
    ·have he:a[m]=b[m]:=by
      have I:(!decide (a[m]=b[m]))=false:=h2
      simpa using I
     refine⟨m,⟨by show m≤a.length;omega, ?_⟩,by show m<m+1;omega, ?_⟩
     ·show a.drop m=b.drop m
      rw[Xaz hm,Xaz (by omega:m<b.length),he,J]
     ·refine Zas rfl rfl ?_ ?_
      ·exact⟨rfl,rfl,((Zan (by omega) (by omega)).trans (by omega):IntKind.i64.wrap (((m+1:Nat):Int)-1-1)=(m:Int)-1).symm,trivial⟩
      ·exact trivial
   ·have ad:k=0:=by have:=of_decide_eq_false h;omega
    subst ad
    rw[XaB,XaB]at J
    exact⟨0,rfl,fun e=>absurd j e,fun _=>⟨by rw[J];omega,by rw[J];simp⟩⟩
  ·exact⟨Xan _,by rw[Xbm,XbJ (by omega)]⟩
  ·refine Zas rfl rfl ?_ ?_
   ·exact⟨rfl,rfl,(Zan (by omega) (by omega)).symm,trivial⟩
   ·exact trivial
theorem Zr3 (m n:Nat) (hm:(wOf m).length≤1000000) (C:(wOf n).length≤1000000):PureOK Tryz.prog Zao 92 [Zby (wOf m),Zby (wOf n)] (fun V=> ∃r:Int,V= .v (.i .i64) r∧(r<0↔m<n)∧(r=0↔m=n)):=by
 refine(Zp9 _ _ (ZdI m) (ZdI n) hm C).mono ?_
 rintro _ ⟨r,rfl,j,I⟩
 refine⟨r,rfl, ?_⟩
 by_cases he:(wOf m).length=(wOf n).length
 ·obtain⟨J,R⟩:=I he
  rw[Zct,Zct]at J R
  omega
 ·have j:=j he
  have g1:(wOf m).length<(wOf n).length→m<n:=fun h=>by
   rcases XaO m n with h'|h'
   ·exact h'
   ·have:=ZbK h';omega
  have g2:(wOf n).length<(wOf m).length→n<m:=fun h=>by
   rcases XaO n m with h'|h'
   ·exact h'
   ·have:=ZbK h';omega
  omega
theorem Zzj (a b:Int) (U:ln a≤900000) (hb:ln b≤900000):PureOK Tryz.prog Zao 71 [IS a,IS b] (fun V=>V=IS (a+b)):=by
 have aa:(wOf a.natAbs).length≤900000:=U
 have ab:(wOf b.natAbs).length≤900000:=hb
 refine Zai Zag Tryz.func71 ?_
 refine Xaa rfl ?_
 refine Xaa rfl ?_
 refine Xaa (fun h=> ?_) (fun h=> ?_)
 ·refine Xaa rfl ?_
  refine Xaa rfl ?_
  refine Xaa rfl ?_
  refine(ZpV _ _ (ZdI _) (ZdI _) (by omega) (by omega)).mono ?_
  rintro _ ⟨out,rfl,j,I,J⟩
  refine(ZfK _ out j (by omega)).mono ?_
  rintro _ rfl
  refine⟨rfl,rfl, ?_⟩
  have C:(decide (a<0)==decide (b<0))=true:=h
  have:sg (decide (a<0)) (wv out)=a+b:=by
   rw[J,Zct,Zct]
   by_cases R:a<0<;>by_cases j:b<0<;>simp only[decide_eq_true,decide_eq_false,R,j,not_false_eq_true]at C⊢ <;>first
    |(simp at C;done)
    |(simp only[sg];omega)
  show IS (sg (decide (a<0)) (wv out))=IS (a+b)
  rw[this]
 ·have C:(decide (a<0)==decide (b<0))=false:=h
  refine Xaa rfl ?_
  refine Xaa rfl ?_
  refine(Zr3 _ _ (by omega) (by omega)).mono ?_
  rintro _ ⟨r,rfl,ad,ae⟩
  refine Xaa (fun I=> ?_) (fun I=> ?_)
  ·have hr:0≤r:=of_decide_eq_true I
   have hle:b.natAbs≤a.natAbs:=by omega
   refine Xaa rfl ?_
   refine Xaa rfl ?_
   refine Xaa rfl ?_
   refine(ZjG _ _ (ZdI _) (ZdI _) (ZbK hle) (by omega) (by rw[Zct,Zct];omega)).mono ?_
   rintro _ ⟨out,rfl,j,I,J⟩
   refine(ZfK _ out j (by omega)).mono ?_
   rintro _ rfl
   refine⟨rfl,rfl, ?_⟩
   have:sg (decide (a<0)) (wv out)=a+b:=by
    rw[J,Zct,Zct]
    by_cases R:a<0<;>by_cases j:b<0<;>simp only[decide_eq_true,decide_eq_false,R,j,not_false_eq_true]at C⊢ <;>first
     |(simp at C;done)
     |(simp only[sg];omega)
   show IS (sg (decide (a<0)) (wv out))=IS (a+b)
   rw[this]
  ·have hr: ¬0≤r:=of_decide_eq_false I
   have hle:a.natAbs≤b.natAbs:=by omega
   refine Xaa rfl ?_
   refine Xaa rfl ?_
   refine Xaa rfl ?_
   refine(ZjG _ _ (ZdI _) (ZdI _) (ZbK hle) (by omega) (by rw[Zct,Zct];omega)).mono ?_
   rintro _ ⟨out,rfl,j,I,J⟩
   refine(ZfK _ out j (by omega)).mono ?_
   rintro _ rfl
   refine⟨rfl,rfl, ?_⟩
   have:sg (decide (b<0)) (wv out)=a+b:=by
    rw[J,Zct,Zct]
    by_cases R:a<0<;>by_cases j:b<0<;>simp only[decide_eq_true,decide_eq_false,R,j,not_false_eq_true]at C⊢ <;>first
     |(simp at C;done)
     |(simp only[sg];omega)
   show IS (sg (decide (b<0)) (wv out))=IS (a+b)
   rw[this]
theorem ZAH (a b:Int) (j:ln a≤900000) (C:ln b≤900000):PureOK Tryz.prog Zao 75 [IS a,IS b] (fun V=>V=IS (a-b)):=by
 refine Zai Zag Tryz.func75 ?_
 refine Xaa rfl ?_
 refine Xaa rfl ?_
 refine(ZzF b (by omega)).mono ?_
 rintro _ rfl
 refine(Zzj a (-b) j (by rw[Zv7];exact C)).mono ?_
 rintro _ rfl
 refine⟨rfl,rfl, ?_⟩
 show IS (a+ -b)=IS (a-b)
 rw[Int.sub_eq_add_neg]
theorem ZAu (a b:Int) (j:ln a≤900000) (C:ln b≤900000):PureOK Tryz.prog Zao 55 [IS a,IS b] (fun V=>V= .v (.i .i64) (a-b).sign):=by
 refine Zai Zag Tryz.func55 ?_
 refine Xaa rfl ?_
 refine Xaa rfl ?_
 refine(ZAH a b j C).mono ?_
 rintro _ rfl
 refine(ZsK _).mono ?_
 rintro _ rfl
 rfl
def ZBj:List UInt8:=[0,1]++List.replicate 2 2++List.replicate 4 3++List.replicate 8 4++List.replicate 16 5++List.replicate 32 6++List.replicate 64 7++List.replicate 128 8
theorem ZuY: ∀j:Fin 256,∃L:Fin 9,ZBj[j.val]? =some (UInt8.ofNat L.val)∧j.val<2^L.val∧(1≤j.val→1≤L.val∧2^(L.val-1)≤j.val):=by decide+kernel
theorem Zku (j:Int) (h0:0≤j) (h1:j<256): ∃L:Nat,ZBj[j.toNat]? =some (UInt8.ofNat L)∧L≤8∧(UInt8.ofNat L).toNat=L∧j<2^L∧(1≤j→1≤L∧2^(L-1)≤j):=by
 obtain⟨⟨L,hL⟩,C,I,J⟩:=ZuY ⟨j.toNat,by omega⟩
 simp only at C I J
 refine⟨L,C,by omega,by rw[UInt8.toNat_ofNat'];omega, ?_,fun h=> ?_⟩
 ·have:((j.toNat:Nat):Int)<((2^L:Nat):Int):=Int.ofNat_lt.2 I
  rw[Xbs]at this
  have e:((2:Nat):Int)=2:=rfl
  rw[e]at this
  omega
 ·obtain⟨R,U⟩:=J (by omega)
  have:((2^(L-1):Nat):Int)≤((j.toNat:Nat):Int):=Int.ofNat_le.2 U
  rw[Xbs]at this
  have e:((2:Nat):Int)=2:=rfl
  rw[e]at this
  exact⟨R,by omega⟩
theorem Zem {x:Int} (j:0≤x) (C:x<256):IntKind.u8.wrap x=x:=by
 unfold IntKind.wrap IntKind.signed IntKind.bits
 simp only[XbD,XaG,if_false]
 omega
theorem ZsZ (x:Int) (k:Nat) (j:k≤32):x.fdiv (2^min k IntKind.u32.bits)=x/2^k:=by
 have:min k IntKind.u32.bits=k:=by show min k 32=k;omega
 rw[this,Int.fdiv_eq_ediv_of_nonneg _ (Xa6 (XbB (by decide)))]
theorem Zm8 {x y:Int} {k L:Nat} (j:y=x/2^k) (C:y<2^L) (I:1≤y→1≤L∧2^(L-1)≤y) (J:1≤x→1≤y):x<2^(k+L)∧(1≤x→1≤k+L∧2^(k+L-1)≤x):=by
 have hp:(0:Int)<2^k:=XbB (by decide)
 constructor
 ·rw[Int.pow_add,Int.mul_comm]
  exact Int.lt_mul_of_ediv_lt hp (j▸C)
 ·intro h
  obtain⟨U,R⟩:=I (J h)
  refine⟨by omega, ?_⟩
  rw[show k+L-1=k+(L-1)by omega,Int.pow_add,Int.mul_comm]
  exact(Int.le_ediv_iff_mul_le hp).1 (j▸R)
theorem j0 (a b:Int) (e:a=b) (h:0≤b):0≤a:=by omega
theorem Zxe (x:Int) (h0:0≤x) (h1:x<4294967296):PureOK Tryz.prog Zao 132 [.v (.i .u32) x] (fun V=> ∃L:Nat,V= .v (.i .i64) (L:Int)∧L≤32∧x<2^L∧(1≤x→1≤L∧2^(L-1)≤x)):=by
 refine Zai Zag Tryz.func132 ?_
 have I:x.fdiv (2^min (Int.toNat 16) IntKind.u32.bits)=x/65536:=ZsZ x 16 (by decide)
 have U: ∀x:Int,x.fdiv (2^min (Int.toNat 8) IntKind.u32.bits)=x/256:=fun x=>ZsZ x 8 (by decide)
 refine Xaa (fun h=> ?_) (fun h=> ?_)
 ·have hx:65536≤x:=of_decide_eq_true h
  refine Xaa (by decide) ?_
  refine Xaa (fun J=> ?_) (fun J=> ?_)
  ·have R:256≤x.fdiv (2^min (Int.toNat 16) IntKind.u32.bits):=of_decide_eq_true J
   refine Xaa (by decide) ?_
   have j:IntKind.u8.wrap ((x.fdiv (2^min (Int.toNat 16) IntKind.u32.bits)).fdiv (2^min (Int.toNat 8) IntKind.u32.bits))=x/65536/256:=by rw[U,I];exact Zem (by omega) (by omega)
   obtain⟨L,t1,t2,t3,t4,t5⟩:=Zku (IntKind.u8.wrap ((x.fdiv (2^min (Int.toNat 16) IntKind.u32.bits)).fdiv (2^min (Int.toNat 8) IntKind.u32.bits))) (by rw[j];omega) (by rw[j];omega)
   have C:=j0 _ _ j (by omega)
   refine⟨UInt8.ofNat L,C,t1, ?_⟩
   rw[I]at R
   rw[j]at t4 t5
   obtain⟨g1,g2⟩:=Zm8 (x:=x) (y:=x/65536/256) (k:=24) (by rw[Int.ediv_ediv_of_nonneg (by decide)];rfl) t4 t5 (by omega)
   refine⟨24+L,congrArg (SV.v (.i .i64)) (?_:IntKind.i64.wrap (IntKind.i64.wrap (16+8)+IntKind.i64.wrap ((UInt8.ofNat L).toNat:Int))=_),by omega,g1,g2⟩
   rw[t3,Zan (x:=(16+8:Int)) (by decide) (by decide),Zan (x:=(L:Int)) (by omega) (by omega),Zan (by omega) (by omega)]
   omega
  ·have R: ¬256≤x.fdiv (2^min (Int.toNat 16) IntKind.u32.bits):=of_decide_eq_false J
   rw[I]at R
   have j:IntKind.u8.wrap (x.fdiv (2^min (Int.toNat 16) IntKind.u32.bits))=x/65536:=by rw[I];exact Zem (by omega) (by omega)
   obtain⟨L,t1,t2,t3,t4,t5⟩:=Zku (IntKind.u8.wrap (x.fdiv (2^min (Int.toNat 16) IntKind.u32.bits))) (by rw[j];omega) (by rw[j];omega)
   have C:=j0 _ _ j (by omega)
   refine⟨UInt8.ofNat L,C,t1, ?_⟩
   rw[j]at t4 t5
   obtain⟨g1,g2⟩:=Zm8 (x:=x) (y:=x/65536) (k:=16) rfl t4 t5 (by omega)
   refine⟨16+L,congrArg (SV.v (.i .i64)) (?_:IntKind.i64.wrap (16+IntKind.i64.wrap ((UInt8.ofNat L).toNat:Int))=_),by omega,g1,g2⟩
   rw[t3,Zan (x:=(L:Int)) (by omega) (by omega),Zan (by omega) (by omega)]
   omega
 ·have hx: ¬65536≤x:=of_decide_eq_false h
  refine Xaa (fun J=> ?_) (fun J=> ?_)
  ·have R:256≤x:=of_decide_eq_true J
   refine Xaa (by decide) ?_
   have j:IntKind.u8.wrap (x.fdiv (2^min (Int.toNat 8) IntKind.u32.bits))=x/256:=by rw[U];exact Zem (by omega) (by omega)
   obtain⟨L,t1,t2,t3,t4,t5⟩:=Zku (IntKind.u8.wrap (x.fdiv (2^min (Int.toNat 8) IntKind.u32.bits))) (by rw[j];omega) (by rw[j];omega)
   have C:=j0 _ _ j (by omega)
   refine⟨UInt8.ofNat L,C,t1, ?_⟩
   rw[j]at t4 t5
   obtain⟨g1,g2⟩:=Zm8 (x:=x) (y:=x/256) (k:=8) rfl t4 t5 (by omega)
   refine⟨8+L,congrArg (SV.v (.i .i64)) (?_:IntKind.i64.wrap (IntKind.i64.wrap (0+8)+IntKind.i64.wrap ((UInt8.ofNat L).toNat:Int))=_),by omega,g1,g2⟩
   rw[t3,Zan (x:=(0+8:Int)) (by decide) (by decide),Zan (x:=(L:Int)) (by omega) (by omega),Zan (by omega) (by omega)]
   omega
  ·have R: ¬256≤x:=of_decide_eq_false J
   have j:IntKind.u8.wrap x=x:=Zem (by omega) (by omega)
   obtain⟨L,t1,t2,t3,t4,t5⟩:=Zku (IntKind.u8.wrap x) (by rw[j];omega) (by rw[j];omega)
   have C:=j0 _ _ j (by omega)
   refine⟨UInt8.ofNat L,C,t1, ?_⟩
   rw[j]at t4 t5
   refine⟨L,congrArg (SV.v (.i .i64)) (?_:IntKind.i64.wrap (0+IntKind.i64.wrap ((UInt8.ofNat L).toNat:Int))=_),by omega,t4,t5⟩
   rw[t3,Zan (x:=(L:Int)) (by omega) (by omega),Zan (by omega) (by omega)]
   omega
theorem ZhT (x:Int) (j:1≤x) (C:x<4294967296):PureOK Tryz.prog Zao 127 [.v (.i .u32) x] (fun V=> ∃s:Nat,V= .v (.i .i64) (s:Int)∧s≤31∧x*2^s<4294967296∧2147483648≤x*2^s):=by
 refine Zai Zag Tryz.func127 ?_
 refine(Zxe x (by omega) C).mono ?_
 rintro _ ⟨L,rfl,U,I,J⟩
 obtain⟨h5,R⟩:=J j
 refine⟨32-L,congrArg (SV.v (.i .i64)) (?_:IntKind.i64.wrap (32-(L:Int))=_),by omega, ?_, ?_⟩
 ·rw[Zan (by omega) (by omega)];omega
 ·have hp:(0:Int)<2^(32-L):=XbB (by decide)
  have:=Int.mul_lt_mul_of_pos_right I hp
  rw[←Int.pow_add,show L+(32-L)=32 by omega]at this
  exact this
 ·have hp:(0:Int)≤2^(32-L):=Xa6 (XbB (by decide))
  have:=XaP R hp
  rw[←Int.pow_add,show L-1+(32-L)=31 by omega]at this
  exact this
theorem Zqs (A B:Nat) (hB:0<B) (ai:(wOf A).length≤800000) (aj:(wOf B).length≤800000):PureOK Tryz.prog Zao 116 [Zby (wOf A),Zby (wOf B)] (fun V=> ∃q r,V= .tup [Zby q,Zby r]∧Wd q∧Wd r∧q.length≤800001∧r.length≤800001∧wv q=(A/B:Nat)∧wv r=(A % B:Nat)):=by
 obtain⟨a,ha⟩: ∃a,wOf A=a:=⟨_,rfl⟩
 obtain⟨b,hb⟩: ∃b,wOf B=b:=⟨_,rfl⟩
 have j:=Zr3 A B (by omega) (by omega)
 have hlen:(wOf A).length<(wOf B).length→A<B:=fun h=>by
  rcases XaO A B with h'|h'
  ·exact h'
  ·have:=ZbK h';omega
 have C:Wd a:=ha▸ZdI _
 have I:Wd b:=hb▸ZdI _
 have J:wv a=A:=by rw[←ha];exact Zct _
 have U:wv b=B:=by rw[←hb];exact Zct _
 have ab:b≠ []:=by
  rintro rfl
  have:=ZfW.1 hb
  omega
 have ax:1≤b.length:=by
  cases b with
  |nil=>exact absurd rfl ab
  |cons x l=>simp
 have ak:Nz b:=hb▸Zy1 _
 rw[ha]at j hlen ai⊢
 rw[hb]at j hlen aj⊢
 refine PureOK.as (Q:=fun V=>(∃q r,V= .tup [Zby q,Zby r]∧Wd q∧Wd r∧q.length≤800001∧r.length≤800001∧wv q=(A/B:Nat)∧wv r=(A % B:Nat))∨(V= .tup [.nils,Zby a]∧A<B)) ?_ ?_
 rotate_left
 ·rintro V (h|⟨rfl,h⟩)
  ·exact⟨V,AsV.refl V,h⟩
  ·exact⟨_,AsV.tup2 (AsV.nil _) (AsV.refl _),[],a,rfl,fun x hx=>by simp at hx,C,by simp,by omega,by rw[Nat.div_eq_of_lt h];rfl,by rw[Xbc h,J]⟩
 refine Zai Zag Tryz.func116 ?_
 refine j.mono ?_
 rintro _ ⟨r,rfl,al,ay⟩
 refine Xaa (fun h=> ?_) (fun h=> ?_)
 ·have hr:r<0:=of_decide_eq_true h
  exact .inr ⟨rfl,al.1 hr⟩
 have hr: ¬r<0:=of_decide_eq_false h
 have az:B≤A:=by omega
 have a1:b.length≤a.length:=by
  rcases XaO a.length b.length with h|h
  ·have:=hlen h;omega
  ·exact h
 refine Xaa (fun h1=> ?_) (fun h1=> ?_)
 ·have an:b.length=1:=by
   have h':(b.length:Int)=1:=of_decide_eq_true h1
   omega
  obtain⟨x,rfl⟩: ∃x,b=[x]:=List.length_eq_one_iff.1 an
  have hx:=I x (by simp)
  have ad:x=B:=by simpa[wv]using U
  refine Exists.intro x ⟨by decide,rfl, ?_⟩
  refine(Zqu a x C (by omega) hx.2 (by omega)).mono ?_
  rintro _ ⟨q,rfl,q1,q2,q3⟩
  have a6:0≤wv a % x:=Int.emod_nonneg _ (by omega)
  have aw:wv a % x<x:=Int.emod_lt_of_pos _ (by omega)
  refine Xaa (by show 0+1≤1;decide) ?_
  refine .inl ⟨q,[wv a % x],rfl,q1, ?_,by omega,by simp, ?_, ?_⟩
  ·intro y hy
   rw[Xat.1 hy];omega
  ·rw[q3,J,ad];rfl
  ·rw[J,ad]
   simp only[wv]
   rw[Int.natCast_emod];omega
 have a7:2≤b.length:=by
  have h': ¬ (b.length:Int)=1:=of_decide_eq_false h1
  omega
 obtain⟨n,hn⟩: ∃n,b.length=n:=⟨_,rfl⟩
 obtain⟨m,hm⟩: ∃m,a.length=m:=⟨_,rfl⟩
 have ae:n-1<b.length:=by omega
 obtain⟨x,ex⟩: ∃x,b[n-1]=x:=⟨_,rfl⟩
 have hx:=I _ (Xax ae)
 have a8:x≠0:=by
  have:=ak ab
  rw[List.getLast_eq_getElem]at this
  rw[←ex]
  simpa[hn]using this
 rw[ex]at hx
 have gx:b[n-1]? =some x:=by rw[←ex];exact Xac ae
 have af:IntKind.i64.wrap ((b.length:Int)-1)=((n-1:Nat):Int):=by rw[Zan (by omega) (by omega)];omega
 refine Exists.intro x ⟨by rw[af];omega,by rw[af,Xad];exact gx, ?_⟩
 refine(ZhT x (by omega) hx.2).mono ?_
 rintro _ ⟨s,rfl,s1,s2,s3⟩
 refine(ZmU a s C s1 (by omega)).mono ?_
 rintro _ _ _ ⟨u,rfl,rfl,rfl,u1,u2,u3⟩
 refine(ZmU b s I s1 (by omega)).mono ?_
 rintro _ _ _ ⟨W,rfl,rfl,rfl,v1,v2,v3⟩
 rw[hn]at v2
 rw[hm]at u2
 obtain⟨d1,d2,d3⟩:=ZsO (by omega) hn I gx s1 s2 s3 v2 v1 v3
 have ag:IntKind.i64.wrap (IntKind.i64.wrap ((a.length:Int)-(b.length:Int))+1)=((m-n+1:Nat):Int):=by rw[Zan (x:=(a.length:Int)-(b.length:Int)) (by omega) (by omega),Zan (by omega) (by omega)];omega
 have ah:((m-n+1:Nat):Int)-1=IntKind.i64.wrap ((a.length:Int)-(b.length:Int)):=by rw[Zan (by omega) (by omega)];omega
 have w2: ∀x:Int,x=((m-n+1:Nat):Int)→0≤x∧x≤x∧(4:Int)*x≤281474976710656∧x<9223372036854775808:=fun x hx=>by omega
 have w3:m-n+1=(IntKind.i64.wrap (IntKind.i64.wrap ((a.length:Int)-(b.length:Int))+1)).toNat:=by rw[ag];omega
 have ao:0≤(n:Int)∧(n:Int)≤n∧(4:Int)*n≤281474976710656∧(n:Int)<9223372036854775808:=by omega
 refine Xaa ⟨Xaj _,(by omega:(b.length:Int)≤((b.length+1:Nat):Int))⟩ ?_
 refine Xaa (w2 _ ag) ?_
 have aq:DInv W n m (wv u) (m-n+1,u,List.replicate (m-n+1) 0):=by
  refine⟨Xan _,u2,u1,by simp, ?_, ?_, ?_⟩
  ·show Wd ((List.replicate (m-n+1) (0:Int)).drop (m-n+1))
   rw[XbJ (by simp)]
   intro y hy;simp at hy
  ·show wv (u.drop (m-n+1))<wv (W.take n)
   rw[d1]
   exact Zti hm C s1 u2 u1 u3 (by omega) (by omega) d3
  ·show wv u=wv (W.take n)*(4294967296^(m-n+1)*wv ((List.replicate (m-n+1) (0:Int)).drop (m-n+1)))+wv u
   rw[XbJ (by simp)]
   simp[wv]
 refine((Zrz a b u W (List.replicate (m-n+1) 0) n m s (wv u) (by omega) (by omega) (by omega) v2 v1 d2 aq).ent ?_).mono ?_
 ·refine Zas rfl rfl ?_ ?_
  ·exact⟨rfl,rfl,⟨rfl,w3,w3⟩,rfl,⟨rfl,by rw[←hm],by rw[←hm]⟩,⟨rfl,(by show n=(b.length:Int).toNat-0;omega),(by show n+1=b.length+1-0;omega)⟩,(by show(n:Int)=(b.length:Int);omega),ah,trivial⟩
  ·exact⟨⟨rfl,fun _=>rfl⟩,⟨rfl,fun _=>rfl⟩,⟨(by show List.replicate (m-n+1) (0:Int)=List.replicate _ 0;rw[←w3]),fun _=>rfl⟩,trivial⟩
 rintro _ _ _ ⟨rfl,u',q,X,Y,⟨i1,i2,i3,i4,i5,i6,i7⟩,rfl,rfl⟩
 simp only[XaB,Int.pow_zero,Int.one_mul]at i1 i2 i3 i4 i5 i6 i7
 refine Xaa ao ?_
 refine((Zuv u' q n m s s1 (by omega) (by omega) i2 i3).ent ?_).mono ?_
 ·refine Zas rfl rfl ?_ ?_
  ·exact⟨⟨rfl,rfl,rfl⟩,⟨rfl,(Xad n).symm,(Xad n).symm⟩,rfl,⟨rfl,rfl,rfl⟩,rfl,rfl,trivial⟩
  ·exact⟨⟨rfl,fun _=>rfl⟩,trivial,⟨rfl,fun _=>rfl⟩,⟨(by show List.replicate n (0:Int)=List.replicate ((n:Int).toNat) 0;rw[Xad]),fun _=>rfl⟩,trivial⟩
 rintro _ _ _ ⟨rfl,r',X2,⟨r1,r2,r3⟩,rfl,rfl⟩
 refine Xaa (by show 0+(m-n+1)≤q.length;omega) ?_
 refine Xaa (by show 0+n≤r'.length;omega) ?_
 have sq:sub q 0 (m-n+1)=q:=by rw[sub,XaB,Xay (by omega)]
 have sr:sub r' 0 n=r':=by rw[sub,XaB,Xay (by omega)]
 have ar:=wvn i3
 obtain⟨z1,z2⟩:=ZpU (A:=(A:Int)) (B:=(B:Int)) (Q:=wv q) (R:=wv u') (s:=s) (by omega) (by rw[←J,←U,←u3,←d1];exact i7) ar (by rw[←U,←d1];exact i6)
 have ba:wv (W.take n)<4294967296^n:=by
  have:=(Zbc (v1.take n)).2
  rw[Xas,XaL (by omega)]at this
  exact this
 have bb:=Zjj (n:=n) i3 (by omega)
 have aa:n<u'.length:=by omega
 have bc:=ZcO aa
 have bd:=i3 _ (Xax aa)
 have bf:=wvn (i3.drop (n+1))
 have au:u'[n]! =0:=by rw[getElem!_pos u' n aa];omega
 have av:wv (u'.take (n+1))=wv u':=by
  have:=seg u' (n+1) (by omega)
  have hz:wv (u'.drop (n+1))=0:=by omega
  rw[hz,Int.mul_zero]at this
  omega
 rw[au,av,z2,Int.zero_ediv,Int.mul_zero,Int.add_zero]at r3
 refine .inl ⟨sub q 0 (m-n+1),sub r' 0 n,rfl,by rw[sq];exact i5,by rw[sr];exact r2,by rw[sq];omega,by rw[sr];omega, ?_, ?_⟩
 ·rw[sq,z1];rfl
 ·rw[sr,r3];rfl
end Go.Proofs.YtapbiodcncnnfaaGreatDoor
