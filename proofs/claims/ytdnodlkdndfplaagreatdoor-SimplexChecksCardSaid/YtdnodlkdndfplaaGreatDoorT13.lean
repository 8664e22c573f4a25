/-
 large.divWords: the loop that takes a multiple of the divisor away.
-/
import Derived.Test.YtdnodlkdndfplaaGreatDoorT12
import Derived.Test.YtdnodlkdndfplaaGreatDoorT4
set_option linter.constructorNameAsVariable false
set_option linter.unusedSimpArgs false
set_option linter.unusedVariables false
namespace Go.Proofs.YtdnodlkdndfplaaGreatDoor
open Go.Am Go.Tx Dv
set_option maxRecDepth 100000
theorem ZrV {x:Int} (h0:0≤x) (h1:x<18446744073709551616):IntKind.u64.wrap ((BitVec.ofInt IntKind.u64.bits x&&&BitVec.ofInt IntKind.u64.bits 4294967295).toNat:Int)=x % 4294967296:=by
 obtain⟨n,rfl⟩: ∃n:Nat,x=n:=⟨x.toNat,by omega⟩
 show IntKind.u64.wrap ((BitVec.ofInt 64 (n:Int)&&&BitVec.ofInt 64 ((4294967295:Nat):Int)).toNat:Int)=_
 rw[BitVec.ofInt_natCast,BitVec.ofInt_natCast,BitVec.toNat_and,BitVec.toNat_ofNat,BitVec.toNat_ofNat,Nat.mod_eq_of_lt (by omega),Nat.mod_eq_of_lt (by omega)]
 have:n&&&4294967295=n % 4294967296:=Nat.and_two_pow_sub_one_eq_mod n 32
 rw[this,Zap (by omega) (by omega)]
 omega
theorem ZnW {u:List Int} {i j:Nat} {W g Z v bo ca c1 b1:Int} (hu:i+j<u.length) (hc:c1=ca+g*v) (hb:b1=bo+(u[i+j]-c1 % 4294967296)) (h:wv u+4294967296^(j+i)*bo=W-4294967296^j*(g*Z)+4294967296^(j+i)*ca):
 wv (u.set (i+j) (b1 % 4294967296))+4294967296^(j+(i+1))*(b1/4294967296)=W-4294967296^j*(g*(Z+4294967296^i*v))+4294967296^(j+(i+1))*(c1/4294967296):=by
 have e1:=Int.emod_add_mul_ediv b1 4294967296
 have e2:=Int.emod_add_mul_ediv c1 4294967296
 have e3:(4294967296:Int)^(j+i)=4294967296^j*4294967296^i:=Int.pow_add ..
 have e4:(4294967296:Int)^(j+(i+1))=4294967296^j*4294967296^i*4294967296:=by rw[←Nat.add_assoc,Int.pow_succ,e3]
 have e5:(4294967296:Int)^(i+j)=4294967296^j*4294967296^i:=by rw[Nat.add_comm,e3]
 rw[Zls hu,e4,e5]
 rw[e3]at h
 have x1:b1 % 4294967296=b1-4294967296*(b1/4294967296):=by omega
 have x2:c1 % 4294967296=c1-4294967296*(c1/4294967296):=by omega
 rw[x1]
 rw[x2]at hb
 generalize b1/4294967296=y at*
 generalize c1/4294967296=t at*
 generalize(4294967296:Int)^j=p at*
 generalize(4294967296:Int)^i=r at*
 generalize u[i+j]=z at*
 subst hc hb
 grind
def bC (a b:List Int) (n m s j:Nat) (g:Int) (t:Nat×Int×Int×List Int):TM:=[(14, .v (.i .u64) g),(16, .v (.i .i64) t.2.1),(17, .v (.i .u64) t.2.2.1),(142, .v (.i .i64) (n:Int)),(143, .v (.i .i64) (t.1:Int))]++dB a b n m s (j:Int)
set_option maxHeartbeats 8000000 in
theorem ZqQ (a b u V q:List Int) (n m s j:Nat) (g:Int) (hm:m≤1000000) (hj:j+n≤m) (hnm:n≤m) (hu:u.length=m+1) (hwu:Wd u) (hV:V.length=n+1) (hwV:Wd V) (g0:0≤g) (g1:g<4294967296):
 LoopOK Tryz.prog Zau 0 ⟨164,0,275⟩ (ZeH Tryz.f164 21) (bC a b n m s j g (0,0,0,u)) (dH u V q)
 (fun e tm hp=>e= .exit 4∧ ∃ (bo ca:Int) (u':List Int) (X:SV),(-1≤bo∧bo≤0∧0≤ca∧ca<4294967296∧u'.length=m+1∧Wd u'∧u'.take j=u.take j∧u'.drop (j+n)=u.drop (j+n)∧wv u'+4294967296^(j+n)*bo=wv u-4294967296^j*(g*wv (V.take n))+4294967296^(j+n)*ca)∧tm=(144,X)::bC a b n m s j g (n,bo,ca,u')∧hp=dH u' V q):=by
 refine ZaC Zao rfl (bC a b n m s j g) (fun t=>dH t.2.2.2 V q)
  (fun t=>t.1≤n∧ -1≤t.2.1∧t.2.1≤0∧0≤t.2.2.1∧t.2.2.1<4294967296∧t.2.2.2.length=m+1∧Wd t.2.2.2∧t.2.2.2.take j=u.take j∧t.2.2.2.drop (j+t.1)=u.drop (j+t.1)∧wv t.2.2.2+4294967296^(j+t.1)*t.2.1=wv u-4294967296^j*(g*wv (V.take t.1))+4294967296^(j+t.1)*t.2.2.1) (fun t=>n-t.1) ?_ (0,0,0,u) ?_ Zcv
 ·rintro⟨i,bo,ca,u'⟩ ⟨hi,hb0,hb1,hc0,hc1,hl,hw,ht,hd,hval⟩
  simp only at hi hb0 hb1 hc0 hc1 hl hw ht hd hval
  refine And.intro (fun h=> ?_) (fun h=> ?_)
  ·have hlt:i<n:=by have:=of_decide_eq_true h;simp only at this;omega
   have hvl:i<V.length:=by omega
   have hul:i+j<u'.length:=by omega
   have hvi:=hwV _ (List.getElem_mem hvl)
   have hui:=hw _ (List.getElem_mem hul)
   obtain⟨v,ev⟩: ∃v,V[i]=v:=⟨_,rfl⟩
   obtain⟨z,ez⟩: ∃z,u'[i+j]=z:=⟨_,rfl⟩
   rw[ev]at hvi
   rw[ez]at hui
   have eij:IntKind.i64.wrap ((i:Int)+(j:Int))=((i+j:Nat):Int):=Zan (by omega) (by omega)
   have p0:0≤g*v:=Int.mul_nonneg g0 hvi.1
   have p1:g*v≤4294967295*4294967295:=Int.mul_le_mul (by omega) (by omega) hvi.1 (by omega)
   obtain⟨c1,ec1⟩: ∃c1,c1=ca+g*v:=⟨_,rfl⟩
   obtain⟨b1,eb1⟩: ∃b1,b1=bo+(z-c1 % 4294967296):=⟨_,rfl⟩
   have f1:IntKind.u64.wrap (ca+IntKind.u64.wrap (g*IntKind.u64.wrap v))=c1:=by
    rw[Zap (x:=v) (by omega) (by omega),Zap (x:=g*v) (by omega) (by omega),Zap (by omega) (by omega),ec1]
   have f2:IntKind.i64.wrap (bo+IntKind.i64.wrap (IntKind.i64.wrap z-IntKind.i64.wrap (IntKind.u64.wrap ((BitVec.ofInt IntKind.u64.bits (IntKind.u64.wrap (ca+IntKind.u64.wrap (g*IntKind.u64.wrap v)))&&&BitVec.ofInt IntKind.u64.bits 4294967295).toNat:Int))))=b1:=by
    rw[f1,ZrV (by omega) (by omega),Zan (x:=z) (by omega) (by omega),Zan (x:=c1 % 4294967296) (by omega) (by omega),Zan (x:=z-c1 % 4294967296) (by omega) (by omega),Zan (by omega) (by omega),eb1]
   refine And.intro ⟨Int.natCast_nonneg i,by show(i:Int)<(n:Int);omega⟩ ?_
   refine Exists.intro v (And.intro (by show V[0+(i:Int).toNat]? =some v;rw[Nat.zero_add,Int.toNat_natCast,←ev];exact List.getElem?_eq_getElem hvl) ?_)
   refine And.intro ⟨by rw[eij];omega,by rw[eij];show((i+j:Nat):Int)<((m+1:Nat):Int);omega⟩ ?_
   refine Exists.intro z (And.intro (by show u'[0+(IntKind.i64.wrap ((i:Int)+(j:Int))).toNat]? =some z;rw[eij,Nat.zero_add,Int.toNat_natCast,←ez];exact List.getElem?_eq_getElem hul) ?_)
   refine And.intro ⟨by rw[eij];omega,by rw[eij];show((i+j:Nat):Int)<((m+1:Nat):Int);omega⟩ ?_
   refine Exists.intro z (And.intro (by show u'[0+(IntKind.i64.wrap ((i:Int)+(j:Int))).toNat]? =some z;rw[eij,Nat.zero_add,Int.toNat_natCast,←ez];exact List.getElem?_eq_getElem hul) ?_)
   refine And.intro (by decide) ?_
   refine And.intro (by decide) ?_
   have ebo:b1/4294967296=(IntKind.i64.wrap (bo+IntKind.i64.wrap (IntKind.i64.wrap z-IntKind.i64.wrap (IntKind.u64.wrap ((BitVec.ofInt IntKind.u64.bits (IntKind.u64.wrap (ca+IntKind.u64.wrap (g*IntKind.u64.wrap v)))&&&BitVec.ofInt IntKind.u64.bits 4294967295).toNat:Int))))).fdiv (2^min (Int.toNat 32) IntKind.i64.bits):=by rw[f2,ZpA]
   have eca:c1/4294967296=(IntKind.u64.wrap (ca+IntKind.u64.wrap (g*IntKind.u64.wrap v))).fdiv (2^min (Int.toNat 32) IntKind.u64.bits):=by rw[f1,Zlj]
   have er:u'.set (i+j) (b1 % 4294967296)=u'.set (0+(IntKind.i64.wrap ((i:Int)+(j:Int))).toNat) (IntKind.u32.wrap (IntKind.i64.wrap (bo+IntKind.i64.wrap (IntKind.i64.wrap z-IntKind.i64.wrap (IntKind.u64.wrap ((BitVec.ofInt IntKind.u64.bits (IntKind.u64.wrap (ca+IntKind.u64.wrap (g*IntKind.u64.wrap v)))&&&BitVec.ofInt IntKind.u64.bits 4294967295).toNat:Int)))))):=by
    rw[f2,eij,Nat.zero_add,Int.toNat_natCast,ZaJ]
   have wi:IntKind.i64.wrap ((i:Int)+1)=((i+1:Nat):Int):=Zan (by omega) (by omega)
   refine⟨(i+1,b1/4294967296,c1/4294967296,u'.set (i+j) (b1 % 4294967296)),⟨hlt,by show-1≤b1/4294967296;omega,by show b1/4294967296≤0;omega,by show 0≤c1/4294967296;omega,by show c1/4294967296<4294967296;omega, ?_, ?_, ?_, ?_, ?_⟩,by show n-(i+1)<n-i;omega, ?_⟩
   ·show(u'.set _ _).length=_;simpa using hl
   ·intro y hy
    rcases List.mem_or_eq_of_mem_set hy with hy|rfl
    ·exact hw y hy
    ·omega
   ·show(u'.set _ _).take j=_
    rw[List.take_set_of_le (by omega),ht]
   ·show(u'.set _ _).drop (j+(i+1))=_
    rw[List.drop_set_of_lt (by omega),←Nat.add_assoc,←List.drop_drop,hd,List.drop_drop]
   ·show wv (u'.set (i+j) (b1 % 4294967296))+4294967296^(j+(i+1))*(b1/4294967296)=wv u-4294967296^j*(g*wv (V.take (i+1)))+4294967296^(j+(i+1))*(c1/4294967296)
    rw[Za4 hvl,ev]
    exact ZnW hul ec1 (by rw[ez];exact eb1) hval
   ·refine Zaq rfl rfl ?_ ?_
    ·exact⟨rfl,ebo,eca,rfl,wi.symm,rfl,rfl,⟨rfl,rfl,rfl⟩,rfl,⟨rfl,rfl,rfl⟩,⟨rfl,rfl,rfl⟩,rfl,rfl,trivial⟩
    ·exact⟨⟨er,fun _=>rfl⟩,⟨rfl,fun _=>rfl⟩,⟨rfl,fun _=>rfl⟩,trivial⟩
  ·have he:i=n:=by have:=of_decide_eq_false h;simp only at this;omega
   subst he
   exact⟨rfl,bo,ca,u',_,⟨hb0,hb1,hc0,hc1,hl,hw,ht,hd,hval⟩,rfl,rfl⟩
 ·exact⟨Nat.zero_le _,by show(-1:Int)≤0;decide,Int.le_refl _,Int.le_refl _,by show(0:Int)<4294967296;decide,hu,hwu,rfl,rfl,by simp[wv]⟩
end Go.Proofs.YtdnodlkdndfplaaGreatDoor
