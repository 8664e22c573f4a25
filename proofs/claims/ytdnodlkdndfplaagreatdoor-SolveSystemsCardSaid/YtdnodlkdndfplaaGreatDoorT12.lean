/-
 large.divWords: the loop that guesses a digit of the quotient.
-/
import Derived.Test.YtdnodlkdndfplaaGreatDoorT3
import Derived.Test.YtdnodlkdndfplaaGreatDoorTxB
set_option linter.constructorNameAsVariable false
set_option linter.unusedSimpArgs false
set_option linter.unusedVariables false
namespace Go.Proofs.YtdnodlkdndfplaaGreatDoor
open Go.Am Go.Tx Dv
set_option maxRecDepth 100000
def dB (a b:List Int) (n m s:Nat) (k:Int):TM:=[(0,Za5 a),(1,Za5 b),(4, .ref 2 0 (m-n+1) none),(8, .v (.i .i64) (s:Int)),(9, .ref 0 0 (m+1) none),(10, .ref 1 0 n (some (n+1))),(11, .v (.i .i64) (n:Int)),(12, .v (.i .i64) k)]
def dH (u V q:List Int):List SM:=[.row (.i .u32) u true, .row (.i .u32) V true, .row (.i .u32) q true]
def gC (a b:List Int) (n m s j:Nat) (top:Int) (t:Int×Int):TM:=[(13, .v (.i .u64) top),(14, .v (.i .u64) t.1),(15, .v (.i .u64) t.2)]++dB a b n m s (j:Int)
theorem nf {b:Bool} (h:b=true) (h':b=false):False:=by rw[h]at h';cases h'
set_option maxHeartbeats 8000000 in
theorem ZsU (a b u V q:List Int) (n m s j:Nat) (top D U P U' V' v1 v2 u2:Int) (hn:2≤n) (hm:m≤1000000000) (hj:j+n≤m) (hnm:n≤m) (hu:u.length=m+1) (hV:V.length=n+1)
 (hv1:V[n-1]? =some v1) (hv2:V[n-2]? =some v2) (hu2:u[j+n-2]? =some u2) (hP:0<P) (eD:D=(v1*4294967296+v2)*P+V') (hV0:0≤V') (hV1:V'<P) (b1:2147483648≤v1) (b1':v1<4294967296) (b2:0≤v2) (b2':v2<4294967296)
 (eU:U=(top*4294967296+u2)*P+U') (hU0:0≤U') (hU1:U'<P) (c0:0≤u2) (c1:u2<4294967296) (ht0:0≤top) (ht:top<(v1+1)*4294967296) (hUD:U<D*4294967296):
 LoopOK Tryz.prog Zan 0 ⟨164,0,275⟩ (Zbz Tryz.f164 15) (gC a b n m s j top (top/v1,top % v1)) (dH u V q)
 (fun e tm hp=>e= .exit 2∧ ∃g rest:Int,(0≤g∧g<4294967296∧U<g*D+D∧g*D-D≤U)∧Ent 0 tm hp (gC a b n m s j top (g,rest)) (dH u V q)):=by
 have hD:0<D:=by
  have h1:0<(v1*4294967296+v2)*P:=Int.mul_pos (by omega) hP
  omega
 have hU0':0≤U:=by
  have h1:0≤(top*4294967296+u2)*P:=Int.mul_nonneg (by omega) (by omega)
  omega
 have hq:=Int.emod_add_mul_ediv U D
 have hq1:=Int.emod_nonneg U (show D≠0 by omega)
 have hq2:=Int.emod_lt_of_pos U hD
 have hqq:(U/D)*D≤U:=by rw[Int.mul_comm];omega
 have hq0:0≤U/D:=Int.ediv_nonneg hU0' (by omega)
 have up: ∀g:Int,U/D≤g→U<g*D+D:=fun g hg=>by
  have:=Int.mul_le_mul_of_nonneg_right hg (show 0≤D by omega)
  rw[Int.mul_comm (U/D) D]at this
  omega
 refine Zat Zaa rfl (gC a b n m s j top) (fun _=>dH u V q)
  (fun t=>0≤t.1∧t.1≤4294967297∧t.1*v1+t.2=top∧0≤t.2∧t.2<4294967296∧U/D≤t.1) (fun t=>t.1.toNat) ?_ (top/v1,top % v1) ?_ ZaU
 ·rintro⟨g,rest⟩ ⟨hg0,hg1,hgr,hr0,hr1,hgq⟩
  simp only at hg0 hg1 hgr hr0 hr1 hgq
  have e2:IntKind.i64.wrap ((n:Int)-2)=((n-2:Nat):Int):=by rw[Zah (by omega) (by omega)];omega
  have e1:IntKind.i64.wrap ((n:Int)-1)=((n-1:Nat):Int):=by rw[Zah (by omega) (by omega)];omega
  have e3:IntKind.i64.wrap (IntKind.i64.wrap ((j:Int)+(n:Int))-2)=((j+n-2:Nat):Int):=by rw[Zah (x:=(j:Int)+(n:Int)) (by omega) (by omega),Zah (by omega) (by omega)];omega
  have w1:IntKind.u64.wrap v1=v1:=Zar (by omega) (by omega)
  have nxt: ∀ (hcond:4294967296≤g∨(g<4294967296∧rest*4294967296+u2<g*v2)),1≤g∧U/D≤g-1∧(g-1)*v1+(rest+v1)=top:=by
   intro hcond
   have h3:U/D<g:=by
    rcases hcond with h|⟨_,h⟩
    ·have:U/D<4294967296:=Int.ediv_lt_of_lt_mul hD (by rw[Int.mul_comm];exact hUD)
     omega
    ·exact Zq8 hP eD hV0 hD eU hU1 hg0 hgr h hqq
   refine⟨by omega,by omega, ?_⟩
   rw[←hgr];grind
  have hE: ∀g:Int,IntKind.u64.wrap (g-1)=g-1∨True:=fun _=> .inr trivial
  cases hc:decide (4294967296≤g)with
  |true=>
   have hgB:4294967296≤g:=of_decide_eq_true hc
   refine ZaA (ZaA (ZaI rfl ?_))
   iterate 3 refine Zad ?_
   iterate 20 refine ZaL hc ?_
   refine ZaY hc ?_
   refine Za0 ?_
   refine brT rfl ?_
   obtain⟨k1,k2,k3⟩:=nxt (.inl hgB)
   have f1:IntKind.u64.wrap (g-1)=g-1:=Zar (by omega) (by omega)
   have f2:IntKind.u64.wrap (rest+IntKind.u64.wrap v1)=rest+v1:=by rw[w1];exact Zar (by omega) (by omega)
   refine And.intro ⟨by rw[e1];omega,by rw[e1];show((n-1:Nat):Int)<(n:Int);omega⟩ ?_
   refine Exists.intro v1 (And.intro (by show V[0+(IntKind.i64.wrap ((n:Int)-1)).toNat]? =some v1;rw[e1,Nat.zero_add,Int.toNat_natCast];exact hv1) ?_)
   refine And.intro (fun h3=> ?_) (fun h3=> ?_)
   ·have h4:4294967296≤IntKind.u64.wrap (rest+IntKind.u64.wrap v1):=of_decide_eq_true h3
    rw[f2]at h4
    have hgB1:g-1<4294967296:=by
     rcases Int.lt_or_le (g-1) 4294967296 with h5|h5
     ·exact h5
     ·have h6:=Int.mul_le_mul_of_nonneg_right h5 (show 0≤v1 by omega)
      have h7:(v1+1)*4294967296=4294967296*v1+4294967296:=by grind
      omega
    refine⟨rfl,g-1,rest+v1,⟨by omega,hgB1,up _ k2,ZkR hP eD hV0 hV1 b2 (by omega) eU hU0 (by omega) hgB1 (Zjc k3 h4 (by omega) hgB1 b2 b2' c0)⟩, ?_⟩
    refine Zal rfl rfl ?_ ?_
    ·exact⟨rfl,f1.symm,f2.symm,rfl,rfl,⟨rfl,rfl,rfl⟩,rfl,⟨rfl,rfl,rfl⟩,⟨rfl,rfl,rfl⟩,rfl,rfl,trivial⟩
    ·exact⟨⟨rfl,fun _=>rfl⟩,⟨rfl,fun _=>rfl⟩,⟨rfl,fun _=>rfl⟩,trivial⟩
   ·have h4: ¬4294967296≤IntKind.u64.wrap (rest+IntKind.u64.wrap v1):=of_decide_eq_false h3
    rw[f2]at h4
    refine⟨(g-1,rest+v1),⟨by show 0≤g-1;omega,by show g-1≤_;omega,k3,by show 0≤rest+v1;omega,by show rest+v1<_;omega,k2⟩,by show(g-1).toNat<g.toNat;omega, ?_⟩
    refine Zal rfl rfl ?_ ?_
    ·exact⟨rfl,f1.symm,f2.symm,rfl,rfl,⟨rfl,rfl,rfl⟩,rfl,⟨rfl,rfl,rfl⟩,⟨rfl,rfl,rfl⟩,rfl,rfl,trivial⟩
    ·exact⟨⟨rfl,fun _=>rfl⟩,⟨rfl,fun _=>rfl⟩,⟨rfl,fun _=>rfl⟩,trivial⟩
  |false=>
   have hgB: ¬4294967296≤g:=of_decide_eq_false hc
   refine ZaA (ZaA (ZaI rfl ?_))
   iterate 3 refine Zad ?_
   iterate 4 refine Zae hc ?_
   refine ZiA rfl rfl rfl hc (fun _=>rfl) ⟨by rw[e2];omega,by rw[e2];show((n-2:Nat):Int)<(n:Int);omega⟩ rfl rfl ?_
   refine Zxq (x:=v2) rfl rfl rfl hc (fun _=>rfl) (by show V[0+(IntKind.i64.wrap ((n:Int)-2)).toNat]? =some v2;rw[e2,Nat.zero_add,Int.toNat_natCast];exact hv2) rfl rfl ?_
   iterate 3 refine Zae hc ?_
   refine ZiA rfl rfl rfl hc (fun _=>rfl) (by decide) rfl rfl ?_
   iterate 5 refine Zae hc ?_
   refine ZiA rfl rfl rfl hc (fun _=>rfl) ⟨by rw[e3];omega,by rw[e3];show((j+n-2:Nat):Int)<((m+1:Nat):Int);omega⟩ rfl rfl ?_
   refine Zxq (x:=u2) rfl rfl rfl hc (fun _=>rfl) (by show u[0+(IntKind.i64.wrap (IntKind.i64.wrap ((j:Int)+(n:Int))-2)).toNat]? =some u2;rw[e3,Nat.zero_add,Int.toNat_natCast];exact hu2) rfl rfl ?_
   iterate 3 refine Zae hc ?_
   refine ZaW hc ?_
   refine Za0 ?_
   have p1:0≤g*v2:=Int.mul_nonneg hg0 b2
   have p2:g*v2≤4294967295*4294967295:=Int.mul_le_mul (by omega) (by omega) b2 (by omega)
   have em:IntKind.u64.wrap (g*IntKind.u64.wrap v2)=g*v2:=by rw[Zar (x:=v2) (by omega) (by omega)];exact Zar (by omega) (by omega)
   have eo:=Zh3 hr0 hr1 c0 c1
   refine And.intro (fun h2=> ?_) (fun h2=> ?_)
   ·have h2':IntKind.u64.wrap ((BitVec.ofInt IntKind.u64.bits (IntKind.u64.wrap (rest*2^min (Int.toNat 32) IntKind.u64.bits))|||BitVec.ofInt IntKind.u64.bits (IntKind.u64.wrap u2)).toNat:Int)<IntKind.u64.wrap (g*IntKind.u64.wrap v2):=of_decide_eq_true h2
    rw[eo,em]at h2'
    obtain⟨k1,k2,k3⟩:=nxt (.inr ⟨by omega,h2'⟩)
    have f1:IntKind.u64.wrap (g-1)=g-1:=Zar (by omega) (by omega)
    have f2:IntKind.u64.wrap (rest+IntKind.u64.wrap v1)=rest+v1:=by rw[w1];exact Zar (by omega) (by omega)
    refine And.intro ⟨by rw[e1];omega,by rw[e1];show((n-1:Nat):Int)<(n:Int);omega⟩ ?_
    refine Exists.intro v1 (And.intro (by show V[0+(IntKind.i64.wrap ((n:Int)-1)).toNat]? =some v1;rw[e1,Nat.zero_add,Int.toNat_natCast];exact hv1) ?_)
    refine And.intro (fun h3=> ?_) (fun h3=> ?_)
    ·have h4:4294967296≤IntKind.u64.wrap (rest+IntKind.u64.wrap v1):=of_decide_eq_true h3
     rw[f2]at h4
     have hgB1:g-1<4294967296:=by
      rcases Int.lt_or_le (g-1) 4294967296 with h5|h5
      ·exact h5
      ·have h6:=Int.mul_le_mul_of_nonneg_right h5 (show 0≤v1 by omega)
       have h7:(v1+1)*4294967296=4294967296*v1+4294967296:=by grind
       omega
     refine⟨rfl,g-1,rest+v1,⟨by omega,hgB1,up _ k2,ZkR hP eD hV0 hV1 b2 (by omega) eU hU0 (by omega) hgB1 (Zjc k3 h4 (by omega) hgB1 b2 b2' c0)⟩, ?_⟩
     refine Zal rfl rfl ?_ ?_
     ·exact⟨rfl,f1.symm,f2.symm,rfl,rfl,⟨rfl,rfl,rfl⟩,rfl,⟨rfl,rfl,rfl⟩,⟨rfl,rfl,rfl⟩,rfl,rfl,trivial⟩
     ·exact⟨⟨rfl,fun _=>rfl⟩,⟨rfl,fun _=>rfl⟩,⟨rfl,fun _=>rfl⟩,trivial⟩
    ·have h4: ¬4294967296≤IntKind.u64.wrap (rest+IntKind.u64.wrap v1):=of_decide_eq_false h3
     rw[f2]at h4
     refine⟨(g-1,rest+v1),⟨by show 0≤g-1;omega,by show g-1≤_;omega,k3,by show 0≤rest+v1;omega,by show rest+v1<_;omega,k2⟩,by show(g-1).toNat<g.toNat;omega, ?_⟩
     refine Zal rfl rfl ?_ ?_
     ·exact⟨rfl,f1.symm,f2.symm,rfl,rfl,⟨rfl,rfl,rfl⟩,rfl,⟨rfl,rfl,rfl⟩,⟨rfl,rfl,rfl⟩,rfl,rfl,trivial⟩
     ·exact⟨⟨rfl,fun _=>rfl⟩,⟨rfl,fun _=>rfl⟩,⟨rfl,fun _=>rfl⟩,trivial⟩
   ·have h2': ¬IntKind.u64.wrap ((BitVec.ofInt IntKind.u64.bits (IntKind.u64.wrap (rest*2^min (Int.toNat 32) IntKind.u64.bits))|||BitVec.ofInt IntKind.u64.bits (IntKind.u64.wrap u2)).toNat:Int)<IntKind.u64.wrap (g*IntKind.u64.wrap v2):=of_decide_eq_false h2
    rw[eo,em]at h2'
    refine⟨rfl,g,rest,⟨hg0,by omega,up _ hgq,ZkR hP eD hV0 hV1 b2 (by omega) eU hU0 hg0 (by omega) (Zrc hgr (by omega))⟩, ?_⟩
    refine Zal rfl rfl ?_ ?_
    ·exact⟨rfl,rfl,rfl,rfl,rfl,⟨rfl,rfl,rfl⟩,rfl,⟨rfl,rfl,rfl⟩,⟨rfl,rfl,rfl⟩,rfl,rfl,trivial⟩
    ·exact⟨⟨rfl,fun _=>rfl⟩,⟨rfl,fun _=>rfl⟩,⟨rfl,fun _=>rfl⟩,trivial⟩
 ·have hmod:=Int.emod_add_mul_ediv top v1
  rw[Int.mul_comm v1]at hmod
  refine⟨Int.ediv_nonneg ht0 (by omega), ?_,by show top/v1*v1+top % v1=top;omega,Int.emod_nonneg _ (by omega),Int.lt_trans (Int.emod_lt_of_pos top (show 0<v1 by omega)) b1', ?_⟩
  ·show top/v1≤4294967297
   have:top/v1<4294967298:=Int.ediv_lt_of_lt_mul (by omega) (by omega)
   omega
  ·exact ZvI hP eD hV0 b2 eU hU1 c1 (by omega) hq0 hqq
theorem ZrU (x:Int):x.fdiv (2^min (Int.toNat 32) IntKind.i64.bits)=x/4294967296:=by
 show x.fdiv 4294967296=_
 rw[Int.fdiv_eq_ediv_of_nonneg _ (by omega)]
set_option maxHeartbeats 4000000 in
theorem Zj6 (a b:List Int) (ha:Wd a) (hb:Wd b) (hab:b.length≤a.length) (hl:a.length≤1000000000) (hle:wv b≤wv a):PureOK Tryz.prog Zan 144 [Za5 a,Za5 b] (fun V=> ∃out,V=Za5 out∧Wd out∧out.length=a.length∧wv out=wv a-wv b):=by
 refine Zac Zaa Tryz.func144 ?_
 have w2:0≤(a.length:Int)∧(a.length:Int)≤a.length∧(4:Int)*a.length≤281474976710656∧(a.length:Int)<9223372036854775808:=by omega
 have w3:a.length=(a.length:Int).toNat:=(Int.toNat_natCast _).symm
 have w4:List.replicate a.length (0:Int)=List.replicate (a.length:Int).toNat 0:=by rw[←w3]
 refine And.intro w2 ?_
 refine Zat Zaa rfl (fun(s:Nat×Int×List Int)=> [(0,Za5 a),(1,Za5 b),(5, .ref 0 0 a.length none),(6, .v (.i .i64) s.2.1),(12, .v (.i .i64) (a.length:Int)),(13, .v (.i .i64) (s.1:Int))]) (fun s=> [.row (.i .u32) s.2.2 true])
  (fun s=>s.1≤a.length∧ -1≤s.2.1∧s.2.1≤0∧s.2.2.length=a.length∧Wd (s.2.2.take s.1)∧wv (s.2.2.take s.1)+4294967296^s.1*s.2.1=wv (a.take s.1)-wv (b.take s.1)) (fun s=>a.length-s.1) ?_ (0,0,List.replicate a.length 0) ?_ ?_
 ·rintro⟨i,c,out⟩ ⟨hi,hc0,hc1,hlen,hwd,hval⟩
  simp only at hi hc0 hc1 hlen hwd hval
  refine And.intro (fun h=> ?_) (fun h=> ?_)
  ·have hlt:i<a.length:=by have:=of_decide_eq_true h;simp only at this;omega
   have hai:=ha _ (List.getElem_mem hlt)
   have e1:IntKind.i64.wrap a[i]=a[i]:=Zah (by omega) (by omega)
   have e2:IntKind.i64.wrap (c+IntKind.i64.wrap a[i])=c+a[i]:=by rw[e1];exact Zah (by omega) (by omega)
   have ho:i<out.length:=by omega
   have wd': ∀c':Int,Wd ((out.set i (c' % 4294967296)).take (i+1)):=by
    intro c' x hx
    rw[Zb9 ho]at hx
    rcases List.mem_append.1 hx with hx|hx
    ·exact hwd x hx
    ·rw[List.mem_singleton.1 hx];omega
   have wi:IntKind.i64.wrap ((i:Int)+1)=((i+1:Nat):Int):=Zah (by omega) (by omega)
   refine⟨a[i],Int.natCast_nonneg i,List.getElem?_eq_getElem hlt, ?_⟩
   refine And.intro (fun h2=> ?_) (fun h2=> ?_)
   ·have hlb:i<b.length:=by have:=of_decide_eq_true h2;simp only at this;omega
    have hbi:=hb _ (List.getElem_mem hlb)
    have e3:IntKind.i64.wrap b[i]=b[i]:=Zah (by omega) (by omega)
    have e4:IntKind.i64.wrap (IntKind.i64.wrap (c+IntKind.i64.wrap a[i])-IntKind.i64.wrap b[i])=c+a[i]-b[i]:=by rw[e2,e3];exact Zah (by omega) (by omega)
    refine⟨b[i],Int.natCast_nonneg i,List.getElem?_eq_getElem hlb, ?_⟩
    refine And.intro ⟨Int.natCast_nonneg i,by show(i:Int)<(a.length:Int);omega⟩ ?_
    refine Exists.intro (out[i]) (And.intro (by simp) ?_)
    refine And.intro (by decide) ?_
    have ec:(c+a[i]-b[i])/4294967296=(IntKind.i64.wrap (IntKind.i64.wrap (c+IntKind.i64.wrap a[i])-IntKind.i64.wrap b[i])).fdiv (2^min (Int.toNat 32) IntKind.i64.bits):=by rw[e4,ZrU]
    have er:out.set i ((c+a[i]-b[i]) % 4294967296)=out.set (0+(i:Int).toNat) (IntKind.u32.wrap (IntKind.i64.wrap (IntKind.i64.wrap (c+IntKind.i64.wrap a[i])-IntKind.i64.wrap b[i]))):=by rw[e4,ZaZ,Int.toNat_natCast,Nat.zero_add]
    refine⟨(i+1,(c+a[i]-b[i])/4294967296,out.set i ((c+a[i]-b[i]) % 4294967296)),⟨hlt, ?_, ?_, ?_,wd' _, ?_⟩, ?_, ?_⟩
    ·show-1≤(c+a[i]-b[i])/4294967296;omega
    ·show(c+a[i]-b[i])/4294967296≤0;omega
    ·show(out.set _ _).length=_;simpa using hlen
    ·exact ZpF hlt ho (ZbF hlb) rfl hval
    ·show a.length-(i+1)<a.length-i;omega
    ·refine Zal rfl rfl ?_ ?_
     ·exact⟨rfl,rfl,⟨rfl,rfl,rfl⟩,ec,rfl,wi.symm,trivial⟩
     ·exact⟨⟨er,fun _=>rfl⟩,trivial⟩
   ·have hlb:b.length≤i:=by have:=of_decide_eq_false h2;simp only at this;omega
    have hz:wv (b.take (i+1))=wv (b.take i)+4294967296^i*0:=by rw[List.take_of_length_le (by omega),List.take_of_length_le hlb];omega
    refine And.intro ⟨Int.natCast_nonneg i,by show(i:Int)<(a.length:Int);omega⟩ ?_
    refine Exists.intro (out[i]) (And.intro (by simp) ?_)
    refine And.intro (by decide) ?_
    have ec:(c+a[i]-0)/4294967296=(IntKind.i64.wrap (c+IntKind.i64.wrap a[i])).fdiv (2^min (Int.toNat 32) IntKind.i64.bits):=by rw[e2,ZrU,Int.sub_zero]
    have er:out.set i ((c+a[i]-0) % 4294967296)=out.set (0+(i:Int).toNat) (IntKind.u32.wrap (IntKind.i64.wrap (c+IntKind.i64.wrap a[i]))):=by rw[e2,ZaZ,Int.toNat_natCast,Nat.zero_add,Int.sub_zero]
    refine⟨(i+1,(c+a[i]-0)/4294967296,out.set i ((c+a[i]-0) % 4294967296)),⟨hlt, ?_, ?_, ?_,wd' _, ?_⟩, ?_, ?_⟩
    ·show-1≤(c+a[i]-0)/4294967296;omega
    ·show(c+a[i]-0)/4294967296≤0;omega
    ·show(out.set _ _).length=_;simpa using hlen
    ·exact ZpF hlt ho hz rfl hval
    ·show a.length-(i+1)<a.length-i;omega
    ·refine Zal rfl rfl ?_ ?_
     ·exact⟨rfl,rfl,⟨rfl,rfl,rfl⟩,ec,rfl,wi.symm,trivial⟩
     ·exact⟨⟨er,fun _=>rfl⟩,trivial⟩
  ·have he:i=a.length:=by have:=of_decide_eq_false h;simp only at this;omega
   subst he
   refine And.intro (by show 0+a.length≤out.length;omega) ?_
   have hs:sub out 0 a.length=out:=by rw[sub,List.drop_zero,List.take_of_length_le (by omega)]
   rw[List.take_of_length_le (by omega:out.length≤a.length)]at hwd
   rw[List.take_of_length_le (by omega:out.length≤a.length),List.take_length,List.take_of_length_le hab]at hval
   have hbd:=Za1 hwd
   rw[hlen]at hbd
   have hc:c=0:=by
    rcases(show c=0∨c= -1 by omega)with hc|hc
    ·exact hc
    ·subst hc
     generalize(4294967296:Int)^a.length=p at hval hbd
     omega
   subst hc
   exact⟨out,congrArg Za5 hs,hwd,hlen,by rw[←hval];simp⟩
 ·exact⟨Nat.zero_le _,by show(-1:Int)≤0;decide,Int.le_refl _,by simp,by intro x hx;simp at hx,by simp[wv]⟩
 ·refine Zal rfl rfl ?_ ?_
  ·exact⟨rfl,rfl,⟨rfl,w3,w3⟩,rfl,rfl,rfl,trivial⟩
  ·exact⟨⟨w4,fun _=>rfl⟩,trivial⟩
end Go.Proofs.YtdnodlkdndfplaaGreatDoor
/-
 large.divWords: the loop that takes a multiple of the divisor away.
-/
namespace Go.Proofs.YtdnodlkdndfplaaGreatDoor
open Go.Am Go.Tx Dv
set_option maxRecDepth 100000
theorem ZyP {x:Int} (h0:0≤x) (h1:x<18446744073709551616):IntKind.u64.wrap ((BitVec.ofInt IntKind.u64.bits x&&&BitVec.ofInt IntKind.u64.bits 4294967295).toNat:Int)=x % 4294967296:=by
 obtain⟨n,rfl⟩: ∃n:Nat,x=n:=⟨x.toNat,by omega⟩
 show IntKind.u64.wrap ((BitVec.ofInt 64 (n:Int)&&&BitVec.ofInt 64 ((4294967295:Nat):Int)).toNat:Int)=_
 rw[BitVec.ofInt_natCast,BitVec.ofInt_natCast,BitVec.toNat_and,BitVec.toNat_ofNat,BitVec.toNat_ofNat,Nat.mod_eq_of_lt (by omega),Nat.mod_eq_of_lt (by omega)]
 have:n&&&4294967295=n % 4294967296:=Nat.and_two_pow_sub_one_eq_mod n 32
 rw[this,Zar (by omega) (by omega)]
 omega
theorem Zr8 {u:List Int} {i j:Nat} {W g Z v bo ca c1 b1:Int} (hu:i+j<u.length) (hc:c1=ca+g*v) (hb:b1=bo+(u[i+j]-c1 % 4294967296)) (h:wv u+4294967296^(j+i)*bo=W-4294967296^j*(g*Z)+4294967296^(j+i)*ca):
 wv (u.set (i+j) (b1 % 4294967296))+4294967296^(j+(i+1))*(b1/4294967296)=W-4294967296^j*(g*(Z+4294967296^i*v))+4294967296^(j+(i+1))*(c1/4294967296):=by
 have e1:=Int.emod_add_mul_ediv b1 4294967296
 have e2:=Int.emod_add_mul_ediv c1 4294967296
 have e3:(4294967296:Int)^(j+i)=4294967296^j*4294967296^i:=Int.pow_add ..
 have e4:(4294967296:Int)^(j+(i+1))=4294967296^j*4294967296^i*4294967296:=by rw[←Nat.add_assoc,Int.pow_succ,e3]
 have e5:(4294967296:Int)^(i+j)=4294967296^j*4294967296^i:=by rw[Nat.add_comm,e3]
 rw[Zpm hu,e4,e5]
 rw[e3]at h
 have x1:b1 % 4294967296=b1-4294967296*(b1/4294967296):=by omega
 have x2:c1 % 4294967296=c1-4294967296*(c1/4294967296):=by omega
 rw[x1]
 rw[x2]at hb
 generalize b1/4294967296=y at*
 generalize c1/4294967296=t at*
 generalize(4294967296:Int)^j=p at*
 generalize(4294967296:Int)^i=r at*
 generalize u[i+j]=z at*
 subst hc hb
 grind
def bC (a b:List Int) (n m s j:Nat) (g:Int) (t:Nat×Int×Int×List Int):TM:=[(14, .v (.i .u64) g),(16, .v (.i .i64) t.2.1),(17, .v (.i .u64) t.2.2.1),(142, .v (.i .i64) (n:Int)),(143, .v (.i .i64) (t.1:Int))]++dB a b n m s (j:Int)
set_option maxHeartbeats 8000000 in
theorem Zvu (a b u V q:List Int) (n m s j:Nat) (g:Int) (hm:m≤1000000000) (hj:j+n≤m) (hnm:n≤m) (hu:u.length=m+1) (hwu:Wd u) (hV:V.length=n+1) (hwV:Wd V) (g0:0≤g) (g1:g<4294967296):
 LoopOK Tryz.prog Zan 0 ⟨164,0,275⟩ (Zbz Tryz.f164 21) (bC a b n m s j g (0,0,0,u)) (dH u V q)
 (fun e tm hp=>e= .exit 4∧ ∃ (bo ca:Int) (u':List Int) (X:SV),(-1≤bo∧bo≤0∧0≤ca∧ca<4294967296∧u'.length=m+1∧Wd u'∧u'.take j=u.take j∧u'.drop (j+n)=u.drop (j+n)∧wv u'+4294967296^(j+n)*bo=wv u-4294967296^j*(g*wv (V.take n))+4294967296^(j+n)*ca)∧tm=(144,X)::bC a b n m s j g (n,bo,ca,u')∧hp=dH u' V q):=by
 refine Zat Zaa rfl (bC a b n m s j g) (fun t=>dH t.2.2.2 V q)
  (fun t=>t.1≤n∧ -1≤t.2.1∧t.2.1≤0∧0≤t.2.2.1∧t.2.2.1<4294967296∧t.2.2.2.length=m+1∧Wd t.2.2.2∧t.2.2.2.take j=u.take j∧t.2.2.2.drop (j+t.1)=u.drop (j+t.1)∧wv t.2.2.2+4294967296^(j+t.1)*t.2.1=wv u-4294967296^j*(g*wv (V.take t.1))+4294967296^(j+t.1)*t.2.2.1) (fun t=>n-t.1) ?_ (0,0,0,u) ?_ ZaU
 ·rintro⟨i,bo,ca,u'⟩ ⟨hi,hb0,hb1,hc0,hc1,hl,hw,ht,hd,hval⟩
  simp only at hi hb0 hb1 hc0 hc1 hl hw ht hd hval
  refine And.intro (fun h=> ?_) (fun h=> ?_)
  ·have hlt:i<n:=by have:=of_decide_eq_true h;simp only at this;omega
   have hvl:i<V.length:=by omega
   have hul:i+j<u'.length:=by omega
   have hvi:=hwV _ (List.getElem_mem hvl)
   have hui:=hw _ (List.getElem_mem hul)
   obtain⟨v,ev⟩: ∃v,V[i]=v:=⟨_,rfl⟩
   obtain⟨z,ez⟩: ∃z,u'[i+j]=z:=⟨_,rfl⟩
   rw[ev]at hvi
   rw[ez]at hui
   have eij:IntKind.i64.wrap ((i:Int)+(j:Int))=((i+j:Nat):Int):=Zah (by omega) (by omega)
   have p0:0≤g*v:=Int.mul_nonneg g0 hvi.1
   have p1:g*v≤4294967295*4294967295:=Int.mul_le_mul (by omega) (by omega) hvi.1 (by omega)
   obtain⟨c1,ec1⟩: ∃c1,c1=ca+g*v:=⟨_,rfl⟩
   obtain⟨b1,eb1⟩: ∃b1,b1=bo+(z-c1 % 4294967296):=⟨_,rfl⟩
   have f1:IntKind.u64.wrap (ca+IntKind.u64.wrap (g*IntKind.u64.wrap v))=c1:=by
    rw[Zar (x:=v) (by omega) (by omega),Zar (x:=g*v) (by omega) (by omega),Zar (by omega) (by omega),ec1]
   have f2:IntKind.i64.wrap (bo+IntKind.i64.wrap (IntKind.i64.wrap z-IntKind.i64.wrap (IntKind.u64.wrap ((BitVec.ofInt IntKind.u64.bits (IntKind.u64.wrap (ca+IntKind.u64.wrap (g*IntKind.u64.wrap v)))&&&BitVec.ofInt IntKind.u64.bits 4294967295).toNat:Int))))=b1:=by
    rw[f1,ZyP (by omega) (by omega),Zah (x:=z) (by omega) (by omega),Zah (x:=c1 % 4294967296) (by omega) (by omega),Zah (x:=z-c1 % 4294967296) (by omega) (by omega),Zah (by omega) (by omega),eb1]
   refine And.intro ⟨Int.natCast_nonneg i,by show(i:Int)<(n:Int);omega⟩ ?_
   refine Exists.intro v (And.intro (by show V[0+(i:Int).toNat]? =some v;rw[Nat.zero_add,Int.toNat_natCast,←ev];exact List.getElem?_eq_getElem hvl) ?_)
   refine And.intro ⟨by rw[eij];omega,by rw[eij];show((i+j:Nat):Int)<((m+1:Nat):Int);omega⟩ ?_
   refine Exists.intro z (And.intro (by show u'[0+(IntKind.i64.wrap ((i:Int)+(j:Int))).toNat]? =some z;rw[eij,Nat.zero_add,Int.toNat_natCast,←ez];exact List.getElem?_eq_getElem hul) ?_)
   refine And.intro ⟨by rw[eij];omega,by rw[eij];show((i+j:Nat):Int)<((m+1:Nat):Int);omega⟩ ?_
   refine Exists.intro z (And.intro (by show u'[0+(IntKind.i64.wrap ((i:Int)+(j:Int))).toNat]? =some z;rw[eij,Nat.zero_add,Int.toNat_natCast,←ez];exact List.getElem?_eq_getElem hul) ?_)
   refine And.intro (by decide) ?_
   refine And.intro (by decide) ?_
   have ebo:b1/4294967296=(IntKind.i64.wrap (bo+IntKind.i64.wrap (IntKind.i64.wrap z-IntKind.i64.wrap (IntKind.u64.wrap ((BitVec.ofInt IntKind.u64.bits (IntKind.u64.wrap (ca+IntKind.u64.wrap (g*IntKind.u64.wrap v)))&&&BitVec.ofInt IntKind.u64.bits 4294967295).toNat:Int))))).fdiv (2^min (Int.toNat 32) IntKind.i64.bits):=by rw[f2,ZrU]
   have eca:c1/4294967296=(IntKind.u64.wrap (ca+IntKind.u64.wrap (g*IntKind.u64.wrap v))).fdiv (2^min (Int.toNat 32) IntKind.u64.bits):=by rw[f1,Zol]
   have er:u'.set (i+j) (b1 % 4294967296)=u'.set (0+(IntKind.i64.wrap ((i:Int)+(j:Int))).toNat) (IntKind.u32.wrap (IntKind.i64.wrap (bo+IntKind.i64.wrap (IntKind.i64.wrap z-IntKind.i64.wrap (IntKind.u64.wrap ((BitVec.ofInt IntKind.u64.bits (IntKind.u64.wrap (ca+IntKind.u64.wrap (g*IntKind.u64.wrap v)))&&&BitVec.ofInt IntKind.u64.bits 4294967295).toNat:Int)))))):=by
    rw[f2,eij,Nat.zero_add,Int.toNat_natCast,ZaZ]
   have wi:IntKind.i64.wrap ((i:Int)+1)=((i+1:Nat):Int):=Zah (by omega) (by omega)
   refine⟨(i+1,b1/4294967296,c1/4294967296,u'.set (i+j) (b1 % 4294967296)),⟨hlt,by show-1≤b1/4294967296;omega,by show b1/4294967296≤0;omega,by show 0≤c1/4294967296;omega,by show c1/4294967296<4294967296;omega, ?_, ?_, ?_, ?_, ?_⟩,by show n-(i+1)<n-i;omega, ?_⟩
   ·show(u'.set _ _).length=_;simpa using hl
   ·intro y hy
    rcases List.mem_or_eq_of_mem_set hy with hy|rfl
    ·exact hw y hy
    ·omega
   ·show(u'.set _ _).take j=_
    rw[List.take_set_of_le (by omega),ht]
   ·show(u'.set _ _).drop (j+(i+1))=_
    rw[List.drop_set_of_lt (by omega),←Nat.add_assoc,←List.drop_drop,hd,List.drop_drop]
   ·show wv (u'.set (i+j) (b1 % 4294967296))+4294967296^(j+(i+1))*(b1/4294967296)=wv u-4294967296^j*(g*wv (V.take (i+1)))+4294967296^(j+(i+1))*(c1/4294967296)
    rw[ZbF hvl,ev]
    exact Zr8 hul ec1 (by rw[ez];exact eb1) hval
   ·refine Zal rfl rfl ?_ ?_
    ·exact⟨rfl,ebo,eca,rfl,wi.symm,rfl,rfl,⟨rfl,rfl,rfl⟩,rfl,⟨rfl,rfl,rfl⟩,⟨rfl,rfl,rfl⟩,rfl,rfl,trivial⟩
    ·exact⟨⟨er,fun _=>rfl⟩,⟨rfl,fun _=>rfl⟩,⟨rfl,fun _=>rfl⟩,trivial⟩
  ·have he:i=n:=by have:=of_decide_eq_false h;simp only at this;omega
   subst he
   exact⟨rfl,bo,ca,u',_,⟨hb0,hb1,hc0,hc1,hl,hw,ht,hd,hval⟩,rfl,rfl⟩
 ·exact⟨Nat.zero_le _,by show(-1:Int)≤0;decide,Int.le_refl _,Int.le_refl _,by show(0:Int)<4294967296;decide,hu,hwu,rfl,rfl,by simp[wv]⟩
end Go.Proofs.YtdnodlkdndfplaaGreatDoor
