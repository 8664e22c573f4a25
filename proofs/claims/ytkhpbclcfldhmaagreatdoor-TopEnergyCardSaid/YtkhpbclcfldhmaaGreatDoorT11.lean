/-
 large.shifted: words shifted up by some bits.
-/
import Derived.Test.YtkhpbclcfldhmaaGreatDoorT4
set_option linter.constructorNameAsVariable false
set_option linter.unusedSimpArgs false
set_option linter.unusedVariables false
namespace Go.Proofs.YtkhpbclcfldhmaaGreatDoor
open Go.Am Go.Tx Dv
set_option maxRecDepth 100000
theorem ZxR {c x:Int} {s:Nat} (hs:s≤31) (hc0:0≤c) (hc1:c<2^s) (hx0:0≤x) (hx1:x<4294967296):
 IntKind.u64.wrap ((BitVec.ofInt IntKind.u64.bits c|||BitVec.ofInt IntKind.u64.bits (IntKind.u64.wrap (IntKind.u64.wrap x*2^min (Int.toNat (s:Int)) IntKind.u64.bits))).toNat:Int)=x*2^s+c:=by
 obtain⟨n,rfl⟩: ∃n:Nat,x=n:=⟨x.toNat,by omega⟩
 obtain⟨m,rfl⟩: ∃m:Nat,c=m:=⟨c.toNat,by omega⟩
 have hm:m<2^s:=by
  have e:((2:Nat):Int)=2:=rfl
  rw[←e,←Int.natCast_pow]at hc1
  exact Int.ofNat_lt.1 hc1
 have hp:(2:Nat)^s≤2^31:=Nat.pow_le_pow_right (by decide) hs
 have hn:n*2^s≤4294967295*2^31:=Nat.mul_le_mul (by omega) hp
 have em:min (Int.toNat (s:Int)) IntKind.u64.bits=s:=by show min s 64=s;omega
 have e1:IntKind.u64.wrap (IntKind.u64.wrap (n:Int)*2^min (Int.toNat (s:Int)) IntKind.u64.bits)=((n*2^s:Nat):Int):=by
  rw[em,Zas (x:=(n:Int)) (by omega) (by omega)]
  have:(n:Int)*2^s=((n*2^s:Nat):Int):=by rw[Int.natCast_mul,Int.natCast_pow];rfl
  rw[this,Zas (by omega) (by omega)]
 rw[e1]
 show IntKind.u64.wrap ((BitVec.ofInt 64 (m:Int)|||BitVec.ofInt 64 ((n*2^s:Nat):Int)).toNat:Int)=_
 rw[BitVec.ofInt_natCast,BitVec.ofInt_natCast,BitVec.toNat_or,BitVec.toNat_ofNat,BitVec.toNat_ofNat,Nat.mod_eq_of_lt (by omega),Nat.mod_eq_of_lt (by omega)]
 have e3:m|||n*2^s=n*2^s+m:=by
  have:=Nat.shiftLeft_add_eq_or_of_lt (a:=n) (b:=m) (i:=s) hm
  rw[Nat.shiftLeft_eq]at this
  rw[Nat.or_comm]
  exact this.symm
 rw[e3,Zas (by omega) (by omega),Int.natCast_add,Int.natCast_mul,Int.natCast_pow]
 rfl
theorem Zp0 {a out:List Int} {i:Nat} {c v z:Int} (hi:i<a.length) (ho:i<out.length) (hv:v=a[i]*z+c)
 (h:wv (out.take i)+4294967296^i*c=wv (a.take i)*z):wv ((out.set i (v % 4294967296)).take (i+1))+4294967296^(i+1)*(v/4294967296)=wv (a.take (i+1))*z:=by
 rw[Zb7 ho,Zdy,Zbx hi,List.length_take,Nat.min_eq_left (Nat.le_of_lt ho),Int.pow_succ]
 have e:v % 4294967296+4294967296*(v/4294967296)=v:=Int.emod_add_mul_ediv v 4294967296
 have:wv [v % 4294967296]=v % 4294967296:=by simp[wv]
 rw[this,Int.mul_assoc,Int.add_assoc,←Int.mul_add,e,hv,Int.add_mul,←h]
 grind
set_option maxHeartbeats 4000000 in
theorem ZlJ (a:List Int) (s:Nat) (ha:Wd a) (hs:s≤31) (hl:a.length≤1000000):ImpOK Tryz.prog Zao 90 [Za8 a, .v (.i .i64) (s:Int)] (fun V hp sf=> ∃out,V= .ref 0 0 (a.length+1) none∧hp=[.row (.i .u32) out true]∧sf=true∧Wd out∧out.length=a.length+1∧wv out=wv a*2^s):=by
 refine Zpl (fn:=Tryz.f90) (code:=Zdg Tryz.f90) Zah (by kernel_rfl) Tryz.func90 (by kernel_rfl) (Nat.le_of_ble_eq_true (by kernel_rfl)) ?_
 have w1:IntKind.i64.wrap ((a.length:Int)+1)=((a.length+1:Nat):Int):=Zar (by omega) (by omega)
 have w2: ∀x:Int,x=((a.length+1:Nat):Int)→0≤x∧x≤x∧(4:Int)*x≤281474976710656∧x<9223372036854775808:=fun x hx=>by omega
 have w3: ∀x:Int,x=((a.length+1:Nat):Int)→a.length+1=x.toNat:=fun x hx=>by omega
 have w4: ∀x:Int,x=((a.length+1:Nat):Int)→List.replicate (a.length+1) (0:Int)=List.replicate x.toNat 0:=fun x hx=>by rw[←w3 x hx]
 have hp:(0:Int)<2^s:=Int.pow_pos (by decide)
 have hp2:(2:Int)^s≤2^31:=ZgC (b:=2) (by decide) hs
 refine And.intro (w2 _ w1) ?_
 refine Zaz Zah rfl (fun(t:Nat×Int×List Int)=> [(0,Za8 a),(1, .v (.i .i64) (s:Int)),(5, .ref 0 0 (a.length+1) none),(6, .v (.i .u64) t.2.1),(13,Za8 a),(14, .v (.i .i64) (a.length:Int)),(15, .v (.i .i64) (t.1:Int))]) (fun t=> [.row (.i .u32) t.2.2 true])
  (fun t=>t.1≤a.length∧0≤t.2.1∧t.2.1<2^s∧t.2.2.length=a.length+1∧Wd (t.2.2.take t.1)∧wv (t.2.2.take t.1)+4294967296^t.1*t.2.1=wv (a.take t.1)*2^s) (fun t=>a.length-t.1) ?_ (0,0,List.replicate (a.length+1) 0) ?_ ?_
 ·rintro⟨i,c,out⟩ ⟨hi,hc0,hc1,hlen,hwd,hval⟩
  simp only at hi hc0 hc1 hlen hwd hval
  refine And.intro (fun h=> ?_) (fun h=> ?_)
  ·have hlt:i<a.length:=by have:=of_decide_eq_true h;simp only at this;omega
   have hai:=ha _ (List.getElem_mem hlt)
   have ho:i<out.length:=by omega
   have wi:IntKind.i64.wrap ((i:Int)+1)=((i+1:Nat):Int):=Zar (by omega) (by omega)
   obtain⟨v,hv⟩: ∃v,v=a[i]*2^s+c:=⟨_,rfl⟩
   have ev:=ZxR hs hc0 hc1 hai.1 hai.2
   rw[←hv]at ev
   have hv0:0≤v:=by have:=Int.mul_nonneg hai.1 (Int.le_of_lt hp);omega
   have hv1:v<4294967296*2^s:=by
    have:=Int.mul_le_mul_of_nonneg_right (show a[i]≤4294967295 by omega) (Int.le_of_lt hp)
    omega
   refine⟨a[i],Int.natCast_nonneg i,List.getElem?_eq_getElem hlt, ?_⟩
   refine And.intro (Int.natCast_nonneg s) ?_
   refine And.intro ⟨Int.natCast_nonneg i,by show(i:Int)<((a.length+1:Nat):Int);omega⟩ ?_
   refine Exists.intro (out[i]) (And.intro (by simp) ?_)
   refine And.intro (by decide) ?_
   have ec:v/4294967296=(IntKind.u64.wrap ((BitVec.ofInt IntKind.u64.bits c|||BitVec.ofInt IntKind.u64.bits (IntKind.u64.wrap (IntKind.u64.wrap a[i]*2^min (Int.toNat (s:Int)) IntKind.u64.bits))).toNat:Int)).fdiv (2^min (Int.toNat 32) IntKind.u64.bits):=by rw[ev,ZnV]
   have er:out.set i (v % 4294967296)=out.set (0+(i:Int).toNat) (IntKind.u32.wrap (IntKind.u64.wrap ((BitVec.ofInt IntKind.u64.bits c|||BitVec.ofInt IntKind.u64.bits (IntKind.u64.wrap (IntKind.u64.wrap a[i]*2^min (Int.toNat (s:Int)) IntKind.u64.bits))).toNat:Int))):=by rw[ev,Za0,Int.toNat_natCast,Nat.zero_add]
   refine⟨(i+1,v/4294967296,out.set i (v % 4294967296)),⟨hlt, ?_, ?_, ?_, ?_, ?_⟩, ?_, ?_⟩
   ·show 0≤v/4294967296;omega
   ·show v/4294967296<2^s;exact Int.ediv_lt_of_lt_mul (by decide) (by rw[Int.mul_comm];exact hv1)
   ·show(out.set _ _).length=_;simpa using hlen
   ·show Wd ((out.set i _).take (i+1))
    intro x hx
    rw[Zb7 ho]at hx
    rcases List.mem_append.1 hx with hx|hx
    ·exact hwd x hx
    ·rw[List.mem_singleton.1 hx];omega
   ·exact Zp0 hlt ho hv hval
   ·show a.length-(i+1)<a.length-i;omega
   ·refine ZaC rfl rfl ?_ ?_
    ·exact⟨rfl,rfl,⟨rfl,rfl,rfl⟩,ec,rfl,rfl,wi.symm,trivial⟩
    ·exact⟨⟨er,fun _=>rfl⟩,trivial⟩
  ·have he:i=a.length:=by have:=of_decide_eq_false h;simp only at this;omega
   subst he
   have ho:a.length<out.length:=by omega
   refine And.intro ⟨Int.natCast_nonneg _,by show(a.length:Int)<((a.length+1:Nat):Int);omega⟩ ?_
   refine Exists.intro (out[a.length]) (And.intro (by simp) ?_)
   rw[List.take_length]at hval
   have hx: ∀x:Int,out.set a.length x=out.take a.length++ [x]:=fun x=>by
    rw[←Zb7 ho,List.take_of_length_le (by rw[List.length_set];omega)]
   have ex:out.set (0+(a.length:Int).toNat) (IntKind.u32.wrap c)=out.set a.length c:=by
    rw[Int.toNat_natCast,Nat.zero_add,Za0,Int.emod_eq_of_lt hc0 (by omega)]
   refine⟨.ref 0 0 (a.length+1) none,[.row (.i .u32) (out.set a.length c) true], ?_,rfl,out.set a.length c,rfl,rfl,rfl, ?_,by rw[List.length_set];exact hlen, ?_⟩
   ·refine ZaC rfl rfl ?_ ?_
    ·exact⟨⟨rfl,rfl,rfl⟩,trivial⟩
    ·exact⟨⟨ex.symm,fun _=>rfl⟩,trivial⟩
   ·rw[hx]
    intro x hx
    rcases List.mem_append.1 hx with hx|hx
    ·exact hwd x hx
    ·rw[List.mem_singleton.1 hx];omega
   ·rw[hx,Zdy,List.length_take,Nat.min_eq_left (Nat.le_of_lt ho),←hval]
    simp[wv]
 ·exact⟨Nat.zero_le _,Int.le_refl _,hp,by simp,by intro x hx;simp at hx,by simp[wv]⟩
 ·refine ZaC rfl rfl ?_ ?_
  ·exact⟨rfl,rfl,⟨rfl,w3 _ w1,w3 _ w1⟩,rfl,rfl,rfl,rfl,trivial⟩
  ·exact⟨⟨w4 _ w1,fun _=>rfl⟩,trivial⟩
end Go.Proofs.YtkhpbclcfldhmaaGreatDoor
/-
 large.divWords: the loop that adds the divisor back; the loop that shifts the remainder down.
-/
namespace Go.Proofs.YtkhpbclcfldhmaaGreatDoor
open Go.Am Go.Tx Dv
set_option maxRecDepth 100000
theorem Zqh {u:List Int} {i j:Nat} {W Z v c c1:Int} (hu:i+j<u.length) (hc:c1=c+(u[i+j]+v)) (h:wv u+4294967296^(j+i)*c=W+4294967296^j*Z):
 wv (u.set (i+j) (c1 % 4294967296))+4294967296^(j+(i+1))*(c1/4294967296)=W+4294967296^j*(Z+4294967296^i*v):=by
 have e1:=Int.emod_add_mul_ediv c1 4294967296
 have e3:(4294967296:Int)^(j+i)=4294967296^j*4294967296^i:=Int.pow_add ..
 have e4:(4294967296:Int)^(j+(i+1))=4294967296^j*4294967296^i*4294967296:=by rw[←Nat.add_assoc,Int.pow_succ,e3]
 have e5:(4294967296:Int)^(i+j)=4294967296^j*4294967296^i:=by rw[Nat.add_comm,e3]
 rw[ZoO hu,e4,e5]
 rw[e3]at h
 have x1:c1 % 4294967296=c1-4294967296*(c1/4294967296):=by omega
 rw[x1]
 generalize c1/4294967296=t at*
 generalize(4294967296:Int)^j=p at*
 generalize(4294967296:Int)^i=r at*
 generalize u[i+j]=z at*
 subst hc
 grind
def cC (a b:List Int) (n m s j:Nat) (g:Int) (t:Nat×Int×List Int):TM:=[(14, .v (.i .u64) g),(19, .v (.i .u64) t.2.1),(203, .v (.i .i64) (n:Int)),(204, .v (.i .i64) (t.1:Int))]++dB a b n m s (j:Int)
set_option maxHeartbeats 8000000 in
theorem Zq1 (a b u V q:List Int) (n m s j:Nat) (g:Int) (hm:m≤1000000) (hj:j+n≤m) (hnm:n≤m) (hu:u.length=m+1) (hwu:Wd u) (hV:V.length=n+1) (hwV:Wd V):
 LoopOK Tryz.prog Zao 0 ⟨75,0,275⟩ (Zbw Tryz.f75 35) (cC a b n m s j g (0,0,u)) (dH u V q)
 (fun e tm hp=>e= .exit 6∧ ∃ (c:Int) (u':List Int) (X:SV),(0≤c∧c≤1∧u'.length=m+1∧Wd u'∧u'.take j=u.take j∧u'.drop (j+n)=u.drop (j+n)∧wv u'+4294967296^(j+n)*c=wv u+4294967296^j*wv (V.take n))∧tm=(205,X)::cC a b n m s j g (n,c,u')∧hp=dH u' V q):=by
 refine Zaz Zah rfl (cC a b n m s j g) (fun t=>dH t.2.2 V q)
  (fun t=>t.1≤n∧0≤t.2.1∧t.2.1≤1∧t.2.2.length=m+1∧Wd t.2.2∧t.2.2.take j=u.take j∧t.2.2.drop (j+t.1)=u.drop (j+t.1)∧wv t.2.2+4294967296^(j+t.1)*t.2.1=wv u+4294967296^j*wv (V.take t.1)) (fun t=>n-t.1) ?_ (0,0,u) ?_ ZaU
 ·rintro⟨i,c,u'⟩ ⟨hi,hc0,hc1,hl,hw,ht,hd,hval⟩
  simp only at hi hc0 hc1 hl hw ht hd hval
  refine And.intro (fun h=> ?_) (fun h=> ?_)
  ·have hlt:i<n:=by have:=of_decide_eq_true h;simp only at this;omega
   have hvl:i<V.length:=by omega
   have hul:i+j<u'.length:=by omega
   have hvi:=hwV _ (List.getElem_mem hvl)
   have hui:=hw _ (List.getElem_mem hul)
   obtain⟨v,ev⟩: ∃v,V[i]=v:=⟨_,rfl⟩
   obtain⟨z,ez⟩: ∃z,u'[i+j]=z:=⟨_,rfl⟩
   rw[ev]at hvi
   rw[ez]at hui
   have eij:IntKind.i64.wrap ((i:Int)+(j:Int))=((i+j:Nat):Int):=Zar (by omega) (by omega)
   obtain⟨c1,ec1⟩: ∃c1,c1=c+(z+v):=⟨_,rfl⟩
   have f1:IntKind.u64.wrap (c+IntKind.u64.wrap (IntKind.u64.wrap z+IntKind.u64.wrap v))=c1:=by
    rw[Zas (x:=v) (by omega) (by omega),Zas (x:=z) (by omega) (by omega),Zas (x:=z+v) (by omega) (by omega),Zas (by omega) (by omega),ec1]
   refine And.intro ⟨by rw[eij];omega,by rw[eij];show((i+j:Nat):Int)<((m+1:Nat):Int);omega⟩ ?_
   refine Exists.intro z (And.intro (by show u'[0+(IntKind.i64.wrap ((i:Int)+(j:Int))).toNat]? =some z;rw[eij,Nat.zero_add,Int.toNat_natCast,←ez];exact List.getElem?_eq_getElem hul) ?_)
   refine And.intro ⟨Int.natCast_nonneg i,by show(i:Int)<(n:Int);omega⟩ ?_
   refine Exists.intro v (And.intro (by show V[0+(i:Int).toNat]? =some v;rw[Nat.zero_add,Int.toNat_natCast,←ev];exact List.getElem?_eq_getElem hvl) ?_)
   refine And.intro ⟨by rw[eij];omega,by rw[eij];show((i+j:Nat):Int)<((m+1:Nat):Int);omega⟩ ?_
   refine Exists.intro z (And.intro (by show u'[0+(IntKind.i64.wrap ((i:Int)+(j:Int))).toNat]? =some z;rw[eij,Nat.zero_add,Int.toNat_natCast,←ez];exact List.getElem?_eq_getElem hul) ?_)
   refine And.intro (by decide) ?_
   have eca:c1/4294967296=(IntKind.u64.wrap (c+IntKind.u64.wrap (IntKind.u64.wrap z+IntKind.u64.wrap v))).fdiv (2^min (Int.toNat 32) IntKind.u64.bits):=by rw[f1,ZnV]
   have er:u'.set (i+j) (c1 % 4294967296)=u'.set (0+(IntKind.i64.wrap ((i:Int)+(j:Int))).toNat) (IntKind.u32.wrap (IntKind.u64.wrap (c+IntKind.u64.wrap (IntKind.u64.wrap z+IntKind.u64.wrap v)))):=by
    rw[f1,eij,Nat.zero_add,Int.toNat_natCast,Za0]
   have wi:IntKind.i64.wrap ((i:Int)+1)=((i+1:Nat):Int):=Zar (by omega) (by omega)
   refine⟨(i+1,c1/4294967296,u'.set (i+j) (c1 % 4294967296)),⟨hlt,by show 0≤c1/4294967296;omega,by show c1/4294967296≤1;omega, ?_, ?_, ?_, ?_, ?_⟩,by show n-(i+1)<n-i;omega, ?_⟩
   ·show(u'.set _ _).length=_;simpa using hl
   ·intro y hy
    rcases List.mem_or_eq_of_mem_set hy with hy|rfl
    ·exact hw y hy
    ·omega
   ·show(u'.set _ _).take j=_
    rw[List.take_set_of_le (by omega),ht]
   ·show(u'.set _ _).drop (j+(i+1))=_
    rw[List.drop_set_of_lt (by omega),←Nat.add_assoc,←List.drop_drop,hd,List.drop_drop]
   ·show wv (u'.set (i+j) (c1 % 4294967296))+4294967296^(j+(i+1))*(c1/4294967296)=wv u+4294967296^j*wv (V.take (i+1))
    rw[Zbx hvl,ev]
    exact Zqh hul (by rw[ez];exact ec1) hval
   ·refine ZaC rfl rfl ?_ ?_
    ·exact⟨rfl,eca,rfl,wi.symm,rfl,rfl,⟨rfl,rfl,rfl⟩,rfl,⟨rfl,rfl,rfl⟩,⟨rfl,rfl,rfl⟩,rfl,rfl,trivial⟩
    ·exact⟨⟨er,fun _=>rfl⟩,⟨rfl,fun _=>rfl⟩,⟨rfl,fun _=>rfl⟩,trivial⟩
  ·have he:i=n:=by have:=of_decide_eq_false h;simp only at this;omega
   subst he
   exact⟨rfl,c,u',_,⟨hc0,hc1,hl,hw,ht,hd,hval⟩,rfl,rfl⟩
 ·exact⟨Nat.zero_le _,Int.le_refl _,by show(0:Int)≤1;decide,hu,hwu,rfl,rfl,by simp[wv]⟩
theorem Zrg {x y w:Int} {s:Nat} (hs:s≤31) (hx0:0≤x) (hx1:x<4294967296) (hw0:0≤w) (p A:Int) (h:y+p*(x/2^s)=A/2^s):
 y+p*((w*4294967296+x)/2^s % 4294967296)+p*4294967296*(w/2^s)=(A+p*4294967296*w)/2^s:=by
 have hp:(0:Int)<2^s:=Int.pow_pos (by decide)
 have hE:(0:Int)<2^(32-s):=Int.pow_pos (by decide)
 have e32:(4294967296:Int)=2^s*2^(32-s):=by rw[←Int.pow_add,show s+(32-s)=32 by omega];rfl
 generalize(2:Int)^s=t at*
 generalize(2:Int)^(32-s)=E at*
 rw[e32]at hx1⊢
 have h1:(w*(t*E)+x)/t=w*E+x/t:=by
  rw[show w*(t*E)+x=x+(w*E)*t by grind,Int.add_mul_ediv_right _ _ (by omega)]
  omega
 have hxt0:0≤x/t:=Int.ediv_nonneg hx0 (by omega)
 have hxt1:x/t<E:=Int.ediv_lt_of_lt_mul hp (by rw[Int.mul_comm];exact hx1)
 have hwt:=Int.emod_add_mul_ediv w t
 have hm0:=Int.emod_nonneg w (show t≠0 by omega)
 have hm1:=Int.emod_lt_of_pos w hp
 have h2:(w*E+x/t) % (t*E)=(w % t)*E+x/t:=by
  have e:w*E+x/t=(w % t)*E+x/t+(w/t)*(t*E):=by
   have:w*E=(w % t+t*(w/t))*E:=by rw[hwt]
   rw[this];grind
  rw[e,Int.add_mul_emod_self_right]
  have h3:(w % t)*E≤(t-1)*E:=Int.mul_le_mul_of_nonneg_right (by omega) (by omega)
  have h4:(t-1)*E=t*E-E:=by grind
  exact Int.emod_eq_of_lt (Int.add_nonneg (Int.mul_nonneg hm0 (by omega)) hxt0) (by omega)
 have h5:(A+p*(t*E)*w)/t=A/t+p*E*w:=by
  rw[show A+p*(t*E)*w=A+(p*E*w)*t by grind,Int.add_mul_ediv_right _ _ (by omega)]
 rw[h1,h2,h5,←h]
 have h6:p*E*w=p*E*(w % t+t*(w/t)):=by rw[hwt]
 rw[h6]
 grind
def rC (n m s:Nat) (t:Nat×List Int):TM:=[(4, .ref 2 0 (m-n+1) none),(5, .ref 3 0 n none),(8, .v (.i .i64) (s:Int)),(9, .ref 0 0 (m+1) none),(249, .v (.i .i64) (n:Int)),(250, .v (.i .i64) (t.1:Int))]
def rH (u q r:List Int):List SM:=[.row (.i .u32) u true, .dead, .row (.i .u32) q true, .row (.i .u32) r true]
set_option maxHeartbeats 8000000 in
theorem Zt6 (u q:List Int) (n m s:Nat) (hs:s≤31) (hm:m≤1000000) (hnm:n≤m) (hu:u.length=m+1) (hwu:Wd u):
 LoopOK Tryz.prog Zao 0 ⟨75,0,275⟩ (Zbw Tryz.f75 45) (rC n m s (0,List.replicate n 0)) (rH u q (List.replicate n 0))
 (fun e tm hp=>e= .exit 8∧ ∃ (r:List Int) (X:SV),(r.length=n∧Wd r∧wv r+4294967296^n*(u[n]!/2^s)=wv (u.take (n+1))/2^s)∧tm=(251,X)::rC n m s (n,r)∧hp=rH u q r):=by
 have hp:(0:Int)<2^s:=Int.pow_pos (by decide)
 have hget: ∀i,i≤n→u[i]! =u[i]!∧u[i]? =some u[i]!∧0≤u[i]!∧u[i]! <4294967296:=fun i hi=>by
  have hlt:i<u.length:=by omega
  have e:u[i]! =u[i]:=getElem!_pos u i hlt
  have:=hwu _ (List.getElem_mem hlt)
  rw[e]
  exact⟨rfl,List.getElem?_eq_getElem hlt,this.1,this.2⟩
 refine Zaz Zah rfl (rC n m s) (fun t=>rH u q t.2)
  (fun t=>t.1≤n∧t.2.length=n∧Wd t.2∧wv (t.2.take t.1)+4294967296^t.1*(u[t.1]!/2^s)=wv (u.take (t.1+1))/2^s) (fun t=>n-t.1) ?_ (0,List.replicate n 0) ?_ ZaU
 ·rintro⟨i,r⟩ ⟨hi,hl,hw,hval⟩
  simp only at hi hl hw hval
  refine And.intro (fun h=> ?_) (fun h=> ?_)
  ·have hlt:i<n:=by have:=of_decide_eq_true h;simp only at this;omega
   obtain⟨_,g1,g2,g3⟩:=hget i hi
   obtain⟨_,k1,k2,k3⟩:=hget (i+1) hlt
   obtain⟨x,ex⟩: ∃x,u[i]! =x:=⟨_,rfl⟩
   obtain⟨w,ew⟩: ∃w,u[i+1]! =w:=⟨_,rfl⟩
   rw[ex]at g1 g2 g3 hval
   rw[ew]at k1 k2 k3
   have ei:IntKind.i64.wrap ((i:Int)+1)=((i+1:Nat):Int):=Zar (by omega) (by omega)
   have hrl:i<r.length:=by omega
   have em:min (Int.toNat (s:Int)) IntKind.u64.bits=s:=by show min s 64=s;omega
   have eo:=ZhP k2 k3 g2 g3
   have er0:(IntKind.u64.wrap ((BitVec.ofInt IntKind.u64.bits (IntKind.u64.wrap (IntKind.u64.wrap w*2^min (Int.toNat 32) IntKind.u64.bits))|||BitVec.ofInt IntKind.u64.bits (IntKind.u64.wrap x)).toNat:Int)).fdiv (2^min (Int.toNat (s:Int)) IntKind.u64.bits)=(w*4294967296+x)/2^s:=by
    rw[Zas (x:=w) (by omega) (by omega),eo,em,Int.fdiv_eq_ediv_of_nonneg _ (Int.le_of_lt hp)]
   refine And.intro ⟨by rw[ei];omega,by rw[ei];show((i+1:Nat):Int)<((m+1:Nat):Int);omega⟩ ?_
   refine Exists.intro w (And.intro (by show u[0+(IntKind.i64.wrap ((i:Int)+1)).toNat]? =some w;rw[ei,Nat.zero_add,Int.toNat_natCast];exact k1) ?_)
   refine And.intro (by decide) ?_
   refine And.intro ⟨Int.natCast_nonneg i,by show(i:Int)<((m+1:Nat):Int);omega⟩ ?_
   refine Exists.intro x (And.intro (by show u[0+(i:Int).toNat]? =some x;rw[Nat.zero_add,Int.toNat_natCast];exact g1) ?_)
   refine And.intro (Int.natCast_nonneg s) ?_
   refine And.intro ⟨Int.natCast_nonneg i,by show(i:Int)<(n:Int);omega⟩ ?_
   refine Exists.intro (r[i]) (And.intro (by show r[0+(i:Int).toNat]? =_;rw[Nat.zero_add,Int.toNat_natCast];exact List.getElem?_eq_getElem hrl) ?_)
   have er:r.set i ((w*4294967296+x)/2^s % 4294967296)=r.set (0+(i:Int).toNat) (IntKind.u32.wrap ((IntKind.u64.wrap ((BitVec.ofInt IntKind.u64.bits (IntKind.u64.wrap (IntKind.u64.wrap w*2^min (Int.toNat 32) IntKind.u64.bits))|||BitVec.ofInt IntKind.u64.bits (IntKind.u64.wrap x)).toNat:Int)).fdiv (2^min (Int.toNat (s:Int)) IntKind.u64.bits))):=by
    rw[er0,Za0,Nat.zero_add,Int.toNat_natCast]
   refine⟨(i+1,r.set i ((w*4294967296+x)/2^s % 4294967296)),⟨hlt, ?_, ?_, ?_⟩,by show n-(i+1)<n-i;omega, ?_⟩
   ·show(r.set _ _).length=_;simpa using hl
   ·intro y hy
    rcases List.mem_or_eq_of_mem_set hy with hy|rfl
    ·exact hw y hy
    ·omega
   ·show wv ((r.set i _).take (i+1))+4294967296^(i+1)*(u[i+1]!/2^s)=wv (u.take (i+1+1))/2^s
    have hlt1:i+1<u.length:=by omega
    have eu:u[i+1]=w:=by rw[←ew];exact(getElem!_pos u (i+1) hlt1).symm
    rw[Zb7 hrl,Zdy,List.length_take,Nat.min_eq_left (Nat.le_of_lt hrl),Zbx hlt1,eu,ew,Int.pow_succ]
    have hone: ∀z:Int,wv [z]=z:=fun z=>by simp[wv]
    rw[hone]
    exact Zrg hs g2 g3 k2 _ _ hval
   ·refine ZaC rfl rfl ?_ ?_
    ·exact⟨⟨rfl,rfl,rfl⟩,⟨rfl,rfl,rfl⟩,rfl,⟨rfl,rfl,rfl⟩,rfl,ei.symm,trivial⟩
    ·exact⟨⟨rfl,fun _=>rfl⟩,trivial,⟨rfl,fun _=>rfl⟩,⟨er,fun _=>rfl⟩,trivial⟩
  ·have he:i=n:=by have:=of_decide_eq_false h;simp only at this;omega
   subst he
   rw[List.take_of_length_le (by omega)]at hval
   exact⟨rfl,r,_,⟨hl,hw,hval⟩,rfl,rfl⟩
 ·refine⟨Nat.zero_le _,by simp,fun x hx=> ?_, ?_⟩
  ·have:=List.eq_of_mem_replicate hx
   rw[this];decide
  ·have h0:0<u.length:=by omega
   show wv ((List.replicate n (0:Int)).take 0)+4294967296^0*(u[0]!/2^s)=wv (u.take 1)/2^s
   rw[Zbx h0,getElem!_pos u 0 h0]
   simp[wv]
end Go.Proofs.YtkhpbclcfldhmaaGreatDoor
