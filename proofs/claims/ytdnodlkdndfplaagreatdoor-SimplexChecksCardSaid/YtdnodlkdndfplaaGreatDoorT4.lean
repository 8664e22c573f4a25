import Derived.Test.YtdnodlkdndfplaaGreatDoorT3
set_option linter.constructorNameAsVariable false
set_option linter.unusedSimpArgs false
set_option linter.unusedVariables false
namespace Go.Proofs.YtdnodlkdndfplaaGreatDoor
open Go.Am Go.Tx Dv
set_option maxRecDepth 100000
theorem ZpA (x:Int):x.fdiv (2^min (Int.toNat 32) IntKind.i64.bits)=x/4294967296:=by
 show x.fdiv 4294967296=_
 rw[Int.fdiv_eq_ediv_of_nonneg _ (by omega)]
set_option maxHeartbeats 4000000 in
theorem Zh8 (a b:List Int) (ha:Wd a) (hb:Wd b) (hab:b.length≤a.length) (hl:a.length≤1000000) (hle:wv b≤wv a):PureOK Tryz.prog Zau 144 [ZaX a,ZaX b] (fun V=> ∃out,V=ZaX out∧Wd out∧out.length=a.length∧wv out=wv a-wv b):=by
 refine Zaj Zao Tryz.func144 ?_
 have w2:0≤(a.length:Int)∧(a.length:Int)≤a.length∧(4:Int)*a.length≤281474976710656∧(a.length:Int)<9223372036854775808:=by omega
 have w3:a.length=(a.length:Int).toNat:=(Int.toNat_natCast _).symm
 have w4:List.replicate a.length (0:Int)=List.replicate (a.length:Int).toNat 0:=by rw[←w3]
 refine And.intro w2 ?_
 refine ZaC Zao rfl (fun(s:Nat×Int×List Int)=> [(0,ZaX a),(1,ZaX b),(5, .ref 0 0 a.length none),(6, .v (.i .i64) s.2.1),(12, .v (.i .i64) (a.length:Int)),(13, .v (.i .i64) (s.1:Int))]) (fun s=> [.row (.i .u32) s.2.2 true])
  (fun s=>s.1≤a.length∧ -1≤s.2.1∧s.2.1≤0∧s.2.2.length=a.length∧Wd (s.2.2.take s.1)∧wv (s.2.2.take s.1)+4294967296^s.1*s.2.1=wv (a.take s.1)-wv (b.take s.1)) (fun s=>a.length-s.1) ?_ (0,0,List.replicate a.length 0) ?_ ?_
 ·rintro⟨i,c,out⟩ ⟨hi,hc0,hc1,hlen,hwd,hval⟩
  simp only at hi hc0 hc1 hlen hwd hval
  refine And.intro (fun h=> ?_) (fun h=> ?_)
  ·have hlt:i<a.length:=by have:=of_decide_eq_true h;simp only at this;omega
   have hai:=ha _ (List.getElem_mem hlt)
   have e1:IntKind.i64.wrap a[i]=a[i]:=Zan (by omega) (by omega)
   have e2:IntKind.i64.wrap (c+IntKind.i64.wrap a[i])=c+a[i]:=by rw[e1];exact Zan (by omega) (by omega)
   have ho:i<out.length:=by omega
   have wd': ∀c':Int,Wd ((out.set i (c' % 4294967296)).take (i+1)):=by
    intro c' x hx
    rw[Zby ho]at hx
    rcases List.mem_append.1 hx with hx|hx
    ·exact hwd x hx
    ·rw[List.mem_singleton.1 hx];omega
   have wi:IntKind.i64.wrap ((i:Int)+1)=((i+1:Nat):Int):=Zan (by omega) (by omega)
   refine⟨a[i],Int.natCast_nonneg i,List.getElem?_eq_getElem hlt, ?_⟩
   refine And.intro (fun h2=> ?_) (fun h2=> ?_)
   ·have hlb:i<b.length:=by have:=of_decide_eq_true h2;simp only at this;omega
    have hbi:=hb _ (List.getElem_mem hlb)
    have e3:IntKind.i64.wrap b[i]=b[i]:=Zan (by omega) (by omega)
    have e4:IntKind.i64.wrap (IntKind.i64.wrap (c+IntKind.i64.wrap a[i])-IntKind.i64.wrap b[i])=c+a[i]-b[i]:=by rw[e2,e3];exact Zan (by omega) (by omega)
    refine⟨b[i],Int.natCast_nonneg i,List.getElem?_eq_getElem hlb, ?_⟩
    refine And.intro ⟨Int.natCast_nonneg i,by show(i:Int)<(a.length:Int);omega⟩ ?_
    refine Exists.intro (out[i]) (And.intro (by simp) ?_)
    refine And.intro (by decide) ?_
    have ec:(c+a[i]-b[i])/4294967296=(IntKind.i64.wrap (IntKind.i64.wrap (c+IntKind.i64.wrap a[i])-IntKind.i64.wrap b[i])).fdiv (2^min (Int.toNat 32) IntKind.i64.bits):=by rw[e4,ZpA]
    have er:out.set i ((c+a[i]-b[i]) % 4294967296)=out.set (0+(i:Int).toNat) (IntKind.u32.wrap (IntKind.i64.wrap (IntKind.i64.wrap (c+IntKind.i64.wrap a[i])-IntKind.i64.wrap b[i]))):=by rw[e4,ZaJ,Int.toNat_natCast,Nat.zero_add]
    refine⟨(i+1,(c+a[i]-b[i])/4294967296,out.set i ((c+a[i]-b[i]) % 4294967296)),⟨hlt, ?_, ?_, ?_,wd' _, ?_⟩, ?_, ?_⟩
    ·show-1≤(c+a[i]-b[i])/4294967296;omega
    ·show(c+a[i]-b[i])/4294967296≤0;omega
    ·show(out.set _ _).length=_;simpa using hlen
    ·exact Zmv hlt ho (Za4 hlb) rfl hval
    ·show a.length-(i+1)<a.length-i;omega
    ·refine Zaq rfl rfl ?_ ?_
     ·exact⟨rfl,rfl,⟨rfl,rfl,rfl⟩,ec,rfl,wi.symm,trivial⟩
     ·exact⟨⟨er,fun _=>rfl⟩,trivial⟩
   ·have hlb:b.length≤i:=by have:=of_decide_eq_false h2;simp only at this;omega
    have hz:wv (b.take (i+1))=wv (b.take i)+4294967296^i*0:=by rw[List.take_of_length_le (by omega),List.take_of_length_le hlb];omega
    refine And.intro ⟨Int.natCast_nonneg i,by show(i:Int)<(a.length:Int);omega⟩ ?_
    refine Exists.intro (out[i]) (And.intro (by simp) ?_)
    refine And.intro (by decide) ?_
    have ec:(c+a[i]-0)/4294967296=(IntKind.i64.wrap (c+IntKind.i64.wrap a[i])).fdiv (2^min (Int.toNat 32) IntKind.i64.bits):=by rw[e2,ZpA,Int.sub_zero]
    have er:out.set i ((c+a[i]-0) % 4294967296)=out.set (0+(i:Int).toNat) (IntKind.u32.wrap (IntKind.i64.wrap (c+IntKind.i64.wrap a[i]))):=by rw[e2,ZaJ,Int.toNat_natCast,Nat.zero_add,Int.sub_zero]
    refine⟨(i+1,(c+a[i]-0)/4294967296,out.set i ((c+a[i]-0) % 4294967296)),⟨hlt, ?_, ?_, ?_,wd' _, ?_⟩, ?_, ?_⟩
    ·show-1≤(c+a[i]-0)/4294967296;omega
    ·show(c+a[i]-0)/4294967296≤0;omega
    ·show(out.set _ _).length=_;simpa using hlen
    ·exact Zmv hlt ho hz rfl hval
    ·show a.length-(i+1)<a.length-i;omega
    ·refine Zaq rfl rfl ?_ ?_
     ·exact⟨rfl,rfl,⟨rfl,rfl,rfl⟩,ec,rfl,wi.symm,trivial⟩
     ·exact⟨⟨er,fun _=>rfl⟩,trivial⟩
  ·have he:i=a.length:=by have:=of_decide_eq_false h;simp only at this;omega
   subst he
   refine And.intro (by show 0+a.length≤out.length;omega) ?_
   have hs:sub out 0 a.length=out:=by rw[sub,List.drop_zero,List.take_of_length_le (by omega)]
   rw[List.take_of_length_le (by omega:out.length≤a.length)]at hwd
   rw[List.take_of_length_le (by omega:out.length≤a.length),List.take_length,List.take_of_length_le hab]at hval
   have hbd:=ZaL hwd
   rw[hlen]at hbd
   have hc:c=0:=by
    rcases(show c=0∨c= -1 by omega)with hc|hc
    ·exact hc
    ·subst hc
     generalize(4294967296:Int)^a.length=p at hval hbd
     omega
   subst hc
   exact⟨out,congrArg ZaX hs,hwd,hlen,by rw[←hval];simp⟩
 ·exact⟨Nat.zero_le _,by show(-1:Int)≤0;decide,Int.le_refl _,by simp,by intro x hx;simp at hx,by simp[wv]⟩
 ·refine Zaq rfl rfl ?_ ?_
  ·exact⟨rfl,rfl,⟨rfl,w3,w3⟩,rfl,rfl,rfl,trivial⟩
  ·exact⟨⟨w4,fun _=>rfl⟩,trivial⟩
end Go.Proofs.YtdnodlkdndfplaaGreatDoor
