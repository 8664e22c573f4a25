import Derived.Test.YtkhpbclcfldhmaaGreatDoorT12
set_option linter.constructorNameAsVariable false
set_option linter.unusedSimpArgs false
set_option linter.unusedVariables false
namespace Go.Proofs.YtkhpbclcfldhmaaGreatDoor
open Go.Am Go.Tx Dv
set_option maxRecDepth 100000
theorem Zr5 (x:Int):x.fdiv (2^min (Int.toNat 32) IntKind.i64.bits)=x/4294967296:=by
 show x.fdiv 4294967296=_
 rw[Int.fdiv_eq_ediv_of_nonneg _ (by omega)]
set_option maxHeartbeats 4000000 in
theorem ZjZ (a b:List Int) (ha:Wd a) (hb:Wd b) (hab:b.length≤a.length) (hl:a.length≤1000000) (hle:wv b≤wv a):PureOK Tryz.prog Zao 67 [Za8 a,Za8 b] (fun V=> ∃out,V=Za8 out∧Wd out∧out.length=a.length∧wv out=wv a-wv b):=by
 refine Zae Zah Tryz.func67 ?_
 have w2:0≤(a.length:Int)∧(a.length:Int)≤a.length∧(4:Int)*a.length≤281474976710656∧(a.length:Int)<9223372036854775808:=by omega
 have w3:a.length=(a.length:Int).toNat:=(Int.toNat_natCast _).symm
 have w4:List.replicate a.length (0:Int)=List.replicate (a.length:Int).toNat 0:=by rw[←w3]
 refine And.intro w2 ?_
 refine Zaz Zah rfl (fun(s:Nat×Int×List Int)=> [(0,Za8 a),(1,Za8 b),(5, .ref 0 0 a.length none),(6, .v (.i .i64) s.2.1),(12, .v (.i .i64) (a.length:Int)),(13, .v (.i .i64) (s.1:Int))]) (fun s=> [.row (.i .u32) s.2.2 true])
  (fun s=>s.1≤a.length∧ -1≤s.2.1∧s.2.1≤0∧s.2.2.length=a.length∧Wd (s.2.2.take s.1)∧wv (s.2.2.take s.1)+4294967296^s.1*s.2.1=wv (a.take s.1)-wv (b.take s.1)) (fun s=>a.length-s.1) ?_ (0,0,List.replicate a.length 0) ?_ ?_
 ·rintro⟨i,c,out⟩ ⟨hi,hc0,hc1,hlen,hwd,hval⟩
  simp only at hi hc0 hc1 hlen hwd hval
  refine And.intro (fun h=> ?_) (fun h=> ?_)
  ·have hlt:i<a.length:=by have:=of_decide_eq_true h;simp only at this;omega
   have hai:=ha _ (List.getElem_mem hlt)
   have e1:IntKind.i64.wrap a[i]=a[i]:=Zar (by omega) (by omega)
   have e2:IntKind.i64.wrap (c+IntKind.i64.wrap a[i])=c+a[i]:=by rw[e1];exact Zar (by omega) (by omega)
   have ho:i<out.length:=by omega
   have wd': ∀c':Int,Wd ((out.set i (c' % 4294967296)).take (i+1)):=by
    intro c' x hx
    rw[Zb7 ho]at hx
    rcases List.mem_append.1 hx with hx|hx
    ·exact hwd x hx
    ·rw[List.mem_singleton.1 hx];omega
   have wi:IntKind.i64.wrap ((i:Int)+1)=((i+1:Nat):Int):=Zar (by omega) (by omega)
   refine⟨a[i],Int.natCast_nonneg i,List.getElem?_eq_getElem hlt, ?_⟩
   refine And.intro (fun h2=> ?_) (fun h2=> ?_)
   ·have hlb:i<b.length:=by have:=of_decide_eq_true h2;simp only at this;omega
    have hbi:=hb _ (List.getElem_mem hlb)
    have e3:IntKind.i64.wrap b[i]=b[i]:=Zar (by omega) (by omega)
    have e4:IntKind.i64.wrap (IntKind.i64.wrap (c+IntKind.i64.wrap a[i])-IntKind.i64.wrap b[i])=c+a[i]-b[i]:=by rw[e2,e3];exact Zar (by omega) (by omega)
    refine⟨b[i],Int.natCast_nonneg i,List.getElem?_eq_getElem hlb, ?_⟩
    refine And.intro ⟨Int.natCast_nonneg i,by show(i:Int)<(a.length:Int);omega⟩ ?_
    refine Exists.intro (out[i]) (And.intro (by simp) ?_)
    refine And.intro (by decide) ?_
    have ec:(c+a[i]-b[i])/4294967296=(IntKind.i64.wrap (IntKind.i64.wrap (c+IntKind.i64.wrap a[i])-IntKind.i64.wrap b[i])).fdiv (2^min (Int.toNat 32) IntKind.i64.bits):=by rw[e4,Zr5]
    have er:out.set i ((c+a[i]-b[i]) % 4294967296)=out.set (0+(i:Int).toNat) (IntKind.u32.wrap (IntKind.i64.wrap (IntKind.i64.wrap (c+IntKind.i64.wrap a[i])-IntKind.i64.wrap b[i]))):=by rw[e4,Za0,Int.toNat_natCast,Nat.zero_add]
    refine⟨(i+1,(c+a[i]-b[i])/4294967296,out.set i ((c+a[i]-b[i]) % 4294967296)),⟨hlt, ?_, ?_, ?_,wd' _, ?_⟩, ?_, ?_⟩
    ·show-1≤(c+a[i]-b[i])/4294967296;omega
    ·show(c+a[i]-b[i])/4294967296≤0;omega
    ·show(out.set _ _).length=_;simpa using hlen
    ·exact Zpd hlt ho (Zbx hlb) rfl hval
    ·show a.length-(i+1)<a.length-i;omega
    ·refine ZaC rfl rfl ?_ ?_
     ·exact⟨rfl,rfl,⟨rfl,rfl,rfl⟩,ec,rfl,wi.symm,trivial⟩
     ·exact⟨⟨er,fun _=>rfl⟩,trivial⟩
   ·have hlb:b.length≤i:=by have:=of_decide_eq_false h2;simp only at this;omega
    have hz:wv (b.take (i+1))=wv (b.take i)+4294967296^i*0:=by rw[List.take_of_length_le (by omega),List.take_of_length_le hlb];omega
    refine And.intro ⟨Int.natCast_nonneg i,by show(i:Int)<(a.length:Int);omega⟩ ?_
    refine Exists.intro (out[i]) (And.intro (by simp) ?_)
    refine And.intro (by decide) ?_
    have ec:(c+a[i]-0)/4294967296=(IntKind.i64.wrap (c+IntKind.i64.wrap a[i])).fdiv (2^min (Int.toNat 32) IntKind.i64.bits):=by rw[e2,Zr5,Int.sub_zero]
    have er:out.set i ((c+a[i]-0) % 4294967296)=out.set (0+(i:Int).toNat) (IntKind.u32.wrap (IntKind.i64.wrap (c+IntKind.i64.wrap a[i]))):=by rw[e2,Za0,Int.toNat_natCast,Nat.zero_add,Int.sub_zero]
    refine⟨(i+1,(c+a[i]-0)/4294967296,out.set i ((c+a[i]-0) % 4294967296)),⟨hlt, ?_, ?_, ?_,wd' _, ?_⟩, ?_, ?_⟩
    ·show-1≤(c+a[i]-0)/4294967296;omega
    ·show(c+a[i]-0)/4294967296≤0;omega
    ·show(out.set _ _).length=_;simpa using hlen
    ·exact Zpd hlt ho hz rfl hval
    ·show a.length-(i+1)<a.length-i;omega
    ·refine ZaC rfl rfl ?_ ?_
     ·exact⟨rfl,rfl,⟨rfl,rfl,rfl⟩,ec,rfl,wi.symm,trivial⟩
     ·exact⟨⟨er,fun _=>rfl⟩,trivial⟩
  ·have he:i=a.length:=by have:=of_decide_eq_false h;simp only at this;omega
   subst he
   refine And.intro (by show 0+a.length≤out.length;omega) ?_
   have hs:sub out 0 a.length=out:=by rw[sub,List.drop_zero,List.take_of_length_le (by omega)]
   rw[List.take_of_length_le (by omega:out.length≤a.length)]at hwd
   rw[List.take_of_length_le (by omega:out.length≤a.length),List.take_length,List.take_of_length_le hab]at hval
   have hbd:=Za7 hwd
   rw[hlen]at hbd
   have hc:c=0:=by
    rcases(show c=0∨c= -1 by omega)with hc|hc
    ·exact hc
    ·subst hc
     generalize(4294967296:Int)^a.length=p at hval hbd
     omega
   subst hc
   exact⟨out,congrArg Za8 hs,hwd,hlen,by rw[←hval];simp⟩
 ·exact⟨Nat.zero_le _,by show(-1:Int)≤0;decide,Int.le_refl _,by simp,by intro x hx;simp at hx,by simp[wv]⟩
 ·refine ZaC rfl rfl ?_ ?_
  ·exact⟨rfl,rfl,⟨rfl,w3,w3⟩,rfl,rfl,rfl,trivial⟩
  ·exact⟨⟨w4,fun _=>rfl⟩,trivial⟩
end Go.Proofs.YtkhpbclcfldhmaaGreatDoor
/-
 large.divWords: the loop that takes a multiple of the divisor away.
-/
namespace Go.Proofs.YtkhpbclcfldhmaaGreatDoor
open Go.Am Go.Tx Dv
set_option maxRecDepth 100000
theorem Zwk {x:Int} (h0:0≤x) (h1:x<18446744073709551616):IntKind.u64.wrap ((BitVec.ofInt IntKind.u64.bits x&&&BitVec.ofInt IntKind.u64.bits 4294967295).toNat:Int)=x % 4294967296:=by
 obtain⟨n,rfl⟩: ∃n:Nat,x=n:=⟨x.toNat,by omega⟩
 show IntKind.u64.wrap ((BitVec.ofInt 64 (n:Int)&&&BitVec.ofInt 64 ((4294967295:Nat):Int)).toNat:Int)=_
 rw[BitVec.ofInt_natCast,BitVec.ofInt_natCast,BitVec.toNat_and,BitVec.toNat_ofNat,BitVec.toNat_ofNat,Nat.mod_eq_of_lt (by omega),Nat.mod_eq_of_lt (by omega)]
 have:n&&&4294967295=n % 4294967296:=Nat.and_two_pow_sub_one_eq_mod n 32
 rw[this,Zas (by omega) (by omega)]
 omega
theorem Zsu {u:List Int} {i j:Nat} {W g Z v bo ca c1 b1:Int} (hu:i+j<u.length) (hc:c1=ca+g*v) (hb:b1=bo+(u[i+j]-c1 % 4294967296)) (h:wv u+4294967296^(j+i)*bo=W-4294967296^j*(g*Z)+4294967296^(j+i)*ca):
 wv (u.set (i+j) (b1 % 4294967296))+4294967296^(j+(i+1))*(b1/4294967296)=W-4294967296^j*(g*(Z+4294967296^i*v))+4294967296^(j+(i+1))*(c1/4294967296):=by
 have e1:=Int.emod_add_mul_ediv b1 4294967296
 have e2:=Int.emod_add_mul_ediv c1 4294967296
 have e3:(4294967296:Int)^(j+i)=4294967296^j*4294967296^i:=Int.pow_add ..
 have e4:(4294967296:Int)^(j+(i+1))=4294967296^j*4294967296^i*4294967296:=by rw[←Nat.add_assoc,Int.pow_succ,e3]
 have e5:(4294967296:Int)^(i+j)=4294967296^j*4294967296^i:=by rw[Nat.add_comm,e3]
 rw[ZoO hu,e4,e5]
 rw[e3]at h
 have x1:b1 % 4294967296=b1-4294967296*(b1/4294967296):=by omega
 have x2:c1 % 4294967296=c1-4294967296*(c1/4294967296):=by omega
 rw[x1]
 rw[x2]at hb
 generalize b1/4294967296=y at*
 generalize c1/4294967296=t at*
 generalize(4294967296:Int)^j=p at*
 generalize(4294967296:Int)^i=r at*
 generalize u[i+j]=z at*
 subst hc hb
 grind
def bC (a b:List Int) (n m s j:Nat) (g:Int) (t:Nat×Int×Int×List Int):TM:=[(14, .v (.i .u64) g),(16, .v (.i .i64) t.2.1),(17, .v (.i .u64) t.2.2.1),(142, .v (.i .i64) (n:Int)),(143, .v (.i .i64) (t.1:Int))]++dB a b n m s (j:Int)
set_option maxHeartbeats 8000000 in
theorem Zt7 (a b u V q:List Int) (n m s j:Nat) (g:Int) (hm:m≤1000000) (hj:j+n≤m) (hnm:n≤m) (hu:u.length=m+1) (hwu:Wd u) (hV:V.length=n+1) (hwV:Wd V) (g0:0≤g) (g1:g<4294967296):
 LoopOK Tryz.prog Zao 0 ⟨75,0,275⟩ (Zbw Tryz.f75 21) (bC a b n m s j g (0,0,0,u)) (dH u V q)
 (fun e tm hp=>e= .exit 4∧ ∃ (bo ca:Int) (u':List Int) (X:SV),(-1≤bo∧bo≤0∧0≤ca∧ca<4294967296∧u'.length=m+1∧Wd u'∧u'.take j=u.take j∧u'.drop (j+n)=u.drop (j+n)∧wv u'+4294967296^(j+n)*bo=wv u-4294967296^j*(g*wv (V.take n))+4294967296^(j+n)*ca)∧tm=(144,X)::bC a b n m s j g (n,bo,ca,u')∧hp=dH u' V q):=by
 refine Zaz Zah rfl (bC a b n m s j g) (fun t=>dH t.2.2.2 V q)
  (fun t=>t.1≤n∧ -1≤t.2.1∧t.2.1≤0∧0≤t.2.2.1∧t.2.2.1<4294967296∧t.2.2.2.length=m+1∧Wd t.2.2.2∧t.2.2.2.take j=u.take j∧t.2.2.2.drop (j+t.1)=u.drop (j+t.1)∧wv t.2.2.2+4294967296^(j+t.1)*t.2.1=wv u-4294967296^j*(g*wv (V.take t.1))+4294967296^(j+t.1)*t.2.2.1) (fun t=>n-t.1) ?_ (0,0,0,u) ?_ ZaU
 ·rintro⟨i,bo,ca,u'⟩ ⟨hi,hb0,hb1,hc0,hc1,hl,hw,ht,hd,hval⟩
  simp only at hi hb0 hb1 hc0 hc1 hl hw ht hd hval
  refine And.intro (fun h=> ?_) (fun h=> ?_)
  ·have hlt:i<n:=by have:=of_decide_eq_true h;simp only at this;omega
   have hvl:i<V.length:=by omega
   have hul:i+j<u'.length:=by omega
   have hvi:=hwV _ (List.getElem_mem hvl)
   have hui:=hw _ (List.getElem_mem hul)
   obtain⟨v,ev⟩: ∃v,V[i]=v:=⟨_,rfl⟩
   obtain⟨z,ez⟩: ∃z,u'[i+j]=z:=⟨_,rfl⟩
   rw[ev]at hvi
   rw[ez]at hui
   have eij:IntKind.i64.wrap ((i:Int)+(j:Int))=((i+j:Nat):Int):=Zar (by omega) (by omega)
   have p0:0≤g*v:=Int.mul_nonneg g0 hvi.1
   have p1:g*v≤4294967295*4294967295:=Int.mul_le_mul (by omega) (by omega) hvi.1 (by omega)
   obtain⟨c1,ec1⟩: ∃c1,c1=ca+g*v:=⟨_,rfl⟩
   obtain⟨b1,eb1⟩: ∃b1,b1=bo+(z-c1 % 4294967296):=⟨_,rfl⟩
   have f1:IntKind.u64.wrap (ca+IntKind.u64.wrap (g*IntKind.u64.wrap v))=c1:=by
    rw[Zas (x:=v) (by omega) (by omega),Zas (x:=g*v) (by omega) (by omega),Zas (by omega) (by omega),ec1]
   have f2:IntKind.i64.wrap (bo+IntKind.i64.wrap (IntKind.i64.wrap z-IntKind.i64.wrap (IntKind.u64.wrap ((BitVec.ofInt IntKind.u64.bits (IntKind.u64.wrap (ca+IntKind.u64.wrap (g*IntKind.u64.wrap v)))&&&BitVec.ofInt IntKind.u64.bits 4294967295).toNat:Int))))=b1:=by
    rw[f1,Zwk (by omega) (by omega),Zar (x:=z) (by omega) (by omega),Zar (x:=c1 % 4294967296) (by omega) (by omega),Zar (x:=z-c1 % 4294967296) (by omega) (by omega),Zar (by omega) (by omega),eb1]
   refine And.intro ⟨Int.natCast_nonneg i,by show(i:Int)<(n:Int);omega⟩ ?_
   refine Exists.intro v (And.intro (by show V[0+(i:Int).toNat]? =some v;rw[Nat.zero_add,Int.toNat_natCast,←ev];exact List.getElem?_eq_getElem hvl) ?_)
   refine And.intro ⟨by rw[eij];omega,by rw[eij];show((i+j:Nat):Int)<((m+1:Nat):Int);omega⟩ ?_
   refine Exists.intro z (And.intro (by show u'[0+(IntKind.i64.wrap ((i:Int)+(j:Int))).toNat]? =some z;rw[eij,Nat.zero_add,Int.toNat_natCast,←ez];exact List.getElem?_eq_getElem hul) ?_)
   refine And.intro ⟨by rw[eij];omega,by rw[eij];show((i+j:Nat):Int)<((m+1:Nat):Int);omega⟩ ?_
   refine Exists.intro z (And.intro (by show u'[0+(IntKind.i64.wrap ((i:Int)+(j:Int))).toNat]? =some z;rw[eij,Nat.zero_add,Int.toNat_natCast,←ez];exact List.getElem?_eq_getElem hul) ?_)
   refine And.intro (by decide) ?_
   refine And.intro (by decide) ?_
   have ebo:b1/4294967296=(IntKind.i64.wrap (bo+IntKind.i64.wrap (IntKind.i64.wrap z-IntKind.i64.wrap (IntKind.u64.wrap ((BitVec.ofInt IntKind.u64.bits (IntKind.u64.wrap (ca+IntKind.u64.wrap (g*IntKind.u64.wrap v)))&&&BitVec.ofInt IntKind.u64.bits 4294967295).toNat:Int))))).fdiv (2^min (Int.toNat 32) IntKind.i64.bits):=by rw[f2,Zr5]
   have eca:c1/4294967296=(IntKind.u64.wrap (ca+IntKind.u64.wrap (g*IntKind.u64.wrap v))).fdiv (2^min (Int.toNat 32) IntKind.u64.bits):=by rw[f1,ZnV]
   have er:u'.set (i+j) (b1 % 4294967296)=u'.set (0+(IntKind.i64.wrap ((i:Int)+(j:Int))).toNat) (IntKind.u32.wrap (IntKind.i64.wrap (bo+IntKind.i64.wrap (IntKind.i64.wrap z-IntKind.i64.wrap (IntKind.u64.wrap ((BitVec.ofInt IntKind.u64.bits (IntKind.u64.wrap (ca+IntKind.u64.wrap (g*IntKind.u64.wrap v)))&&&BitVec.ofInt IntKind.u64.bits 4294967295).toNat:Int)))))):=by
    rw[f2,eij,Nat.zero_add,Int.toNat_natCast,Za0]
   have wi:IntKind.i64.wrap ((i:Int)+1)=((i+1:Nat):Int):=Zar (by omega) (by omega)
   refine⟨(i+1,b1/4294967296,c1/4294967296,u'.set (i+j) (b1 % 4294967296)),⟨hlt,by show-1≤b1/4294967296;omega,by show b1/4294967296≤0;omega,by show 0≤c1/4294967296;omega,by show c1/4294967296<4294967296;omega, ?_, ?_, ?_, ?_, ?_⟩,by show n-(i+1)<n-i;omega, ?_⟩
   ·show(u'.set _ _).length=_;simpa using hl
   ·intro y hy
    rcases List.mem_or_eq_of_mem_set hy with hy|rfl
    ·exact hw y hy
    ·omega
   ·show(u'.set _ _).take j=_
    rw[List.take_set_of_le (by omega),ht]
   ·show(u'.set _ _).drop (j+(i+1))=_
    rw[List.drop_set_of_lt (by omega),←Nat.add_assoc,←List.drop_drop,hd,List.drop_drop]
   ·show wv (u'.set (i+j) (b1 % 4294967296))+4294967296^(j+(i+1))*(b1/4294967296)=wv u-4294967296^j*(g*wv (V.take (i+1)))+4294967296^(j+(i+1))*(c1/4294967296)
    rw[Zbx hvl,ev]
    exact Zsu hul ec1 (by rw[ez];exact eb1) hval
   ·refine ZaC rfl rfl ?_ ?_
    ·exact⟨rfl,ebo,eca,rfl,wi.symm,rfl,rfl,⟨rfl,rfl,rfl⟩,rfl,⟨rfl,rfl,rfl⟩,⟨rfl,rfl,rfl⟩,rfl,rfl,trivial⟩
    ·exact⟨⟨er,fun _=>rfl⟩,⟨rfl,fun _=>rfl⟩,⟨rfl,fun _=>rfl⟩,trivial⟩
  ·have he:i=n:=by have:=of_decide_eq_false h;simp only at this;omega
   subst he
   exact⟨rfl,bo,ca,u',_,⟨hb0,hb1,hc0,hc1,hl,hw,ht,hd,hval⟩,rfl,rfl⟩
 ·exact⟨Nat.zero_le _,by show(-1:Int)≤0;decide,Int.le_refl _,Int.le_refl _,by show(0:Int)<4294967296;decide,hu,hwu,rfl,rfl,by simp[wv]⟩
end Go.Proofs.YtkhpbclcfldhmaaGreatDoor
