import Derived.Test.YtdnodlkdndfplaaGreatDoorTx9
import Derived.Test.YtdnodlkdndfplaaGreatDoorTys
import Derived.Test.YtdnodlkdndfplaaGreatDoorW0
set_option linter.constructorNameAsVariable false
set_option linter.unusedSimpArgs false
set_option linter.unusedVariables false
namespace Go.Proofs.YtdnodlkdndfplaaGreatDoor
open Go.Am Go.Tx Dv
set_option maxRecDepth 100000
theorem Zan {x:Int} (h0: -9223372036854775808≤x) (h1:x<9223372036854775808):IntKind.i64.wrap x=x:=by
 unfold IntKind.wrap IntKind.signed IntKind.bits
 simp only[Bool.true_and]
 split<;>rename_i h<;>simp only[decide_eq_true_eq]at h<;>omega
abbrev ZaX (l:List Int):SV:= .v (.l (.i .u32)) l
theorem Zap {x:Int} (h0:0≤x) (h1:x<18446744073709551616):IntKind.u64.wrap x=x:=by
 unfold IntKind.wrap IntKind.signed IntKind.bits
 simp only[Bool.false_and,Bool.false_eq_true,if_false]
 omega
theorem ZaJ (x:Int):IntKind.u32.wrap x=x % 4294967296:=by
 unfold IntKind.wrap IntKind.signed IntKind.bits
 simp
theorem Zlj (x:Int):x.fdiv (2^min (Int.toNat 32) IntKind.u64.bits)=x/4294967296:=by
 show x.fdiv 4294967296=_
 rw[Int.fdiv_eq_ediv_of_nonneg _ (by omega)]
def ZtY (a b:List Int) (s:Nat×Int×List Int):TM:=[(0,ZaX a),(1,ZaX b),(5, .ref 0 0 (a.length+1) none),(6, .v (.i .u64) s.2.1),(20, .v (.i .i64) (a.length:Int)),(21, .v (.i .i64) (s.1:Int))]
set_option maxHeartbeats 4000000 in
theorem Zof (a b:List Int) (ha:Wd a) (hb:Wd b) (hab:b.length≤a.length) (hl:a.length≤1000000):LoopOK Tryz.prog Zau 0 ⟨142,0,57⟩ (ZeH Tryz.f142 6) (ZtY a b (0,0,List.replicate (a.length+1) 0)) [.row (.i .u32) (List.replicate (a.length+1) (0:Int)) true]
 (fun e tm hp=>e= .exit 0∧ ∃c out X,0≤c∧c≤1∧out.length=a.length+1∧Wd (out.take a.length)∧wv (out.take a.length)+4294967296^a.length*c=wv a+wv b∧tm=(22,X)::ZtY a b (a.length,c,out)∧hp=[.row (.i .u32) out true]):=by
 refine ZaC Zao rfl (ZtY a b) (fun s=> [.row (.i .u32) s.2.2 true])
  (fun s=>s.1≤a.length∧0≤s.2.1∧s.2.1≤1∧s.2.2.length=a.length+1∧Wd (s.2.2.take s.1)∧wv (s.2.2.take s.1)+4294967296^s.1*s.2.1=wv (a.take s.1)+wv (b.take s.1)) (fun s=>a.length-s.1) ?_ (0,0,List.replicate (a.length+1) 0) ?_ ?_
 ·rintro⟨i,c,out⟩ ⟨hi,hc0,hc1,hlen,hwd,hval⟩
  simp only at hi hc0 hc1 hlen hwd hval
  refine And.intro (fun h=> ?_) (fun h=> ?_)
  ·have hlt:i<a.length:=by have:=of_decide_eq_true h;simp only at this;omega
   have hai:=ha _ (List.getElem_mem hlt)
   have e1:IntKind.u64.wrap a[i]=a[i]:=Zap (by omega) (by omega)
   have e2:IntKind.u64.wrap (c+IntKind.u64.wrap a[i])=c+a[i]:=by rw[e1];exact Zap (by omega) (by omega)
   have ho:i<out.length:=by omega
   have wd': ∀c':Int,Wd ((out.set i (c' % 4294967296)).take (i+1)):=by
    intro c' x hx
    rw[Zby ho]at hx
    rcases List.mem_append.1 hx with hx|hx
    ·exact hwd x hx
    ·rw[List.mem_singleton.1 hx];omega
   have wi:IntKind.i64.wrap ((i:Int)+1)=((i+1:Nat):Int):=Zan (by omega) (by omega)
   refine⟨a[i],Int.natCast_nonneg i,List.getElem?_eq_getElem hlt, ?_⟩
   refine And.intro (fun h2=> ?_) (fun h2=> ?_)
   ·have hlb:i<b.length:=by have:=of_decide_eq_true h2;simp only at this;omega
    have hbi:=hb _ (List.getElem_mem hlb)
    have e3:IntKind.u64.wrap b[i]=b[i]:=Zap (by omega) (by omega)
    have e4:IntKind.u64.wrap (IntKind.u64.wrap (c+IntKind.u64.wrap a[i])+IntKind.u64.wrap b[i])=c+a[i]+b[i]:=by rw[e2,e3];exact Zap (by omega) (by omega)
    refine⟨b[i],Int.natCast_nonneg i,List.getElem?_eq_getElem hlb, ?_⟩
    refine And.intro ⟨Int.natCast_nonneg i,by show(i:Int)<((a.length+1:Nat):Int);omega⟩ ?_
    refine Exists.intro (out[i]) (And.intro (by simp) ?_)
    refine And.intro (by decide) ?_
    have ec:(c+a[i]+b[i])/4294967296=(IntKind.u64.wrap (IntKind.u64.wrap (c+IntKind.u64.wrap a[i])+IntKind.u64.wrap b[i])).fdiv (2^min (Int.toNat 32) IntKind.u64.bits):=by rw[e4,Zlj]
    have er:out.set i ((c+a[i]+b[i]) % 4294967296)=out.set (0+(i:Int).toNat) (IntKind.u32.wrap (IntKind.u64.wrap (IntKind.u64.wrap (c+IntKind.u64.wrap a[i])+IntKind.u64.wrap b[i]))):=by rw[e4,ZaJ,Int.toNat_natCast,Nat.zero_add]
    refine⟨(i+1,(c+a[i]+b[i])/4294967296,out.set i ((c+a[i]+b[i]) % 4294967296)),⟨hlt, ?_, ?_, ?_,wd' _, ?_⟩, ?_, ?_⟩
    ·show 0≤(c+a[i]+b[i])/4294967296;omega
    ·show(c+a[i]+b[i])/4294967296≤1;omega
    ·show(out.set _ _).length=_;simpa using hlen
    ·exact ZlI hlt ho (Za4 hlb) rfl hval
    ·show a.length-(i+1)<a.length-i;omega
    ·refine Zaq rfl rfl ?_ ?_
     ·exact⟨rfl,rfl,⟨rfl,rfl,rfl⟩,ec,rfl,wi.symm,trivial⟩
     ·exact⟨⟨er,fun _=>rfl⟩,trivial⟩
   ·have hlb:b.length≤i:=by have:=of_decide_eq_false h2;simp only at this;omega
    have hz:wv (b.take (i+1))=wv (b.take i)+4294967296^i*0:=by rw[List.take_of_length_le (by omega),List.take_of_length_le hlb];omega
    refine And.intro ⟨Int.natCast_nonneg i,by show(i:Int)<((a.length+1:Nat):Int);omega⟩ ?_
    refine Exists.intro (out[i]) (And.intro (by simp) ?_)
    refine And.intro (by decide) ?_
    have ec:(c+a[i]+0)/4294967296=(IntKind.u64.wrap (c+IntKind.u64.wrap a[i])).fdiv (2^min (Int.toNat 32) IntKind.u64.bits):=by rw[e2,Zlj,Int.add_zero]
    have er:out.set i ((c+a[i]+0) % 4294967296)=out.set (0+(i:Int).toNat) (IntKind.u32.wrap (IntKind.u64.wrap (c+IntKind.u64.wrap a[i]))):=by rw[e2,ZaJ,Int.toNat_natCast,Nat.zero_add,Int.add_zero]
    refine⟨(i+1,(c+a[i]+0)/4294967296,out.set i ((c+a[i]+0) % 4294967296)),⟨hlt, ?_, ?_, ?_,wd' _, ?_⟩, ?_, ?_⟩
    ·show 0≤(c+a[i]+0)/4294967296;omega
    ·show(c+a[i]+0)/4294967296≤1;omega
    ·show(out.set _ _).length=_;simpa using hlen
    ·exact ZlI hlt ho hz rfl hval
    ·show a.length-(i+1)<a.length-i;omega
    ·refine Zaq rfl rfl ?_ ?_
     ·exact⟨rfl,rfl,⟨rfl,rfl,rfl⟩,ec,rfl,wi.symm,trivial⟩
     ·exact⟨⟨er,fun _=>rfl⟩,trivial⟩
  ·have he:i=a.length:=by have:=of_decide_eq_false h;simp only at this;omega
   subst he
   rw[List.take_length,List.take_of_length_le hab]at hval
   exact⟨rfl,c,out,_,hc0,hc1,hlen,hwd,hval,rfl,rfl⟩
 ·exact⟨Nat.zero_le _,Int.le_refl _,by show(0:Int)≤1;decide,by simp,by intro x hx;simp at hx,by simp[wv]⟩
 ·exact Zcv
set_option maxHeartbeats 4000000 in
theorem ZmA (a b:List Int) (ha:Wd a) (hb:Wd b) (hl:a.length≤1000000) (hl2:b.length≤1000000):PureOK Tryz.prog Zau 142 [ZaX a,ZaX b] (fun V=> ∃out,V=ZaX out∧Wd out∧out.length≤max a.length b.length+1∧wv out=wv a+wv b):=by
 refine Zaj Zao Tryz.func142 ?_
 have w1: ∀a:List Int,a.length≤1000000→IntKind.i64.wrap ((a.length:Int)+1)=((a.length+1:Nat):Int):=fun a h=>Zan (by omega) (by omega)
 have w2: ∀a:List Int,a.length≤1000000→ ∀x:Int,x=((a.length+1:Nat):Int)→0≤x∧x≤x∧(4:Int)*x≤281474976710656∧x<9223372036854775808:=fun a h x hx=>by omega
 have w3: ∀a:List Int,∀x:Int,x=((a.length+1:Nat):Int)→a.length+1=x.toNat:=fun a x hx=>by omega
 have w4: ∀a:List Int,∀x:Int,x=((a.length+1:Nat):Int)→List.replicate (a.length+1) (0:Int)=List.replicate x.toNat 0:=fun a x hx=>by rw[←w3 a x hx]
 have fin: ∀ (a b out:List Int) (c:Int),a.length≤1000000→0≤c→c≤1→out.length=a.length+1→Wd (out.take a.length)→wv (out.take a.length)+4294967296^a.length*c=wv a+wv b→
  sub (out.set (0+(a.length:Int).toNat) (IntKind.u32.wrap c)) 0 (a.length+1)=out.set a.length (c % 4294967296)∧Wd (out.set a.length (c % 4294967296))∧(out.set a.length (c % 4294967296)).length=a.length+1∧wv (out.set a.length (c % 4294967296))=wv a+wv b:=by
  intro a b out c hl hc0 hc1 hlen hwd hval
  have ho:a.length<out.length:=by omega
  have hx: ∀x:Int,out.set a.length x=out.take a.length++ [x]:=fun x=>by
   rw[←Zby ho,List.take_of_length_le (by rw[List.length_set];omega)]
  refine⟨by rw[Int.toNat_natCast,Nat.zero_add,ZaJ,sub,List.drop_zero,List.take_of_length_le (by rw[List.length_set];omega)], ?_,by rw[List.length_set];omega, ?_⟩
  ·rw[hx]
   intro x hx
   rcases List.mem_append.1 hx with hx|hx
   ·exact hwd x hx
   ·rw[List.mem_singleton.1 hx];omega
  ·rw[hx,ZcJ,List.length_take,Nat.min_eq_left (Nat.le_of_lt ho),←hval,show c % 4294967296=c by omega]
   simp[wv]
 refine And.intro (fun h=> ?_) (fun h=> ?_)
 ·have hab:a.length≤b.length:=by have:=of_decide_eq_true h;omega
  refine And.intro (w2 b hl2 _ (w1 b hl2)) ?_
  refine((Zof b a hb ha hab hl2).ent ?_).mono ?_
  ·refine Zaq rfl rfl ?_ ?_
   ·exact⟨rfl,rfl,⟨rfl,w3 b _ (w1 b hl2),w3 b _ (w1 b hl2)⟩,rfl,rfl,rfl,trivial⟩
   ·exact⟨⟨w4 b _ (w1 b hl2),fun _=>rfl⟩,trivial⟩
  rintro _ _ _ ⟨rfl,c,out,X,hc0,hc1,hlen,hwd,hval,rfl,rfl⟩
  obtain⟨f1,f2,f3,f4⟩:=fin b a out c hl2 hc0 hc1 hlen hwd hval
  refine And.intro ⟨Int.natCast_nonneg _,by show(b.length:Int)<((b.length+1:Nat):Int);omega⟩ ?_
  refine Exists.intro (out[b.length]) (And.intro (by simp) ?_)
  refine And.intro (by show 0+(b.length+1)≤(out.set _ _).length;rw[List.length_set];omega) ?_
  exact⟨_,congrArg ZaX f1,f2,by rw[f3];omega,by rw[f4,Int.add_comm]⟩
 ·have hab:b.length≤a.length:=by have:=of_decide_eq_false h;omega
  refine And.intro (w2 a hl _ (w1 a hl)) ?_
  refine((Zof a b ha hb hab hl).ent ?_).mono ?_
  ·refine Zaq rfl rfl ?_ ?_
   ·exact⟨rfl,rfl,⟨rfl,w3 a _ (w1 a hl),w3 a _ (w1 a hl)⟩,rfl,rfl,rfl,trivial⟩
   ·exact⟨⟨w4 a _ (w1 a hl),fun _=>rfl⟩,trivial⟩
  rintro _ _ _ ⟨rfl,c,out,X,hc0,hc1,hlen,hwd,hval,rfl,rfl⟩
  obtain⟨f1,f2,f3,f4⟩:=fin a b out c hl hc0 hc1 hlen hwd hval
  refine And.intro ⟨Int.natCast_nonneg _,by show(a.length:Int)<((a.length+1:Nat):Int);omega⟩ ?_
  refine Exists.intro (out[a.length]) (And.intro (by simp) ?_)
  refine And.intro (by show 0+(a.length+1)≤(out.set _ _).length;rw[List.length_set];omega) ?_
  exact⟨_,congrArg ZaX f1,f2,by rw[f3];omega,f4⟩
end Go.Proofs.YtdnodlkdndfplaaGreatDoor
