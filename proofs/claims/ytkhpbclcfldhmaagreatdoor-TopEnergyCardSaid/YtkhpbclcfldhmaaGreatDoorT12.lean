/-
 large.divWords: the loop that guesses a digit of the quotient.
-/
import Derived.Test.YtkhpbclcfldhmaaGreatDoorT3
import Derived.Test.YtkhpbclcfldhmaaGreatDoorTxG
set_option linter.constructorNameAsVariable false
set_option linter.unusedSimpArgs false
set_option linter.unusedVariables false
namespace Go.Proofs.YtkhpbclcfldhmaaGreatDoor
open Go.Am Go.Tx Dv
set_option maxRecDepth 100000
def dB (a b:List Int) (n m s:Nat) (k:Int):TM:=[(0,Za8 a),(1,Za8 b),(4, .ref 2 0 (m-n+1) none),(8, .v (.i .i64) (s:Int)),(9, .ref 0 0 (m+1) none),(10, .ref 1 0 n (some (n+1))),(11, .v (.i .i64) (n:Int)),(12, .v (.i .i64) k)]
def dH (u V q:List Int):List SM:=[.row (.i .u32) u true, .row (.i .u32) V true, .row (.i .u32) q true]
def gC (a b:List Int) (n m s j:Nat) (top:Int) (t:Int×Int):TM:=[(13, .v (.i .u64) top),(14, .v (.i .u64) t.1),(15, .v (.i .u64) t.2)]++dB a b n m s (j:Int)
theorem nf {b:Bool} (h:b=true) (h':b=false):False:=by rw[h]at h';cases h'
set_option maxHeartbeats 8000000 in
theorem Zsi (a b u V q:List Int) (n m s j:Nat) (top D U P U' V' v1 v2 u2:Int) (hn:2≤n) (hm:m≤1000000) (hj:j+n≤m) (hnm:n≤m) (hu:u.length=m+1) (hV:V.length=n+1)
 (hv1:V[n-1]? =some v1) (hv2:V[n-2]? =some v2) (hu2:u[j+n-2]? =some u2) (hP:0<P) (eD:D=(v1*4294967296+v2)*P+V') (hV0:0≤V') (hV1:V'<P) (b1:2147483648≤v1) (b1':v1<4294967296) (b2:0≤v2) (b2':v2<4294967296)
 (eU:U=(top*4294967296+u2)*P+U') (hU0:0≤U') (hU1:U'<P) (c0:0≤u2) (c1:u2<4294967296) (ht0:0≤top) (ht:top<(v1+1)*4294967296) (hUD:U<D*4294967296):
 LoopOK Tryz.prog Zao 0 ⟨75,0,275⟩ (Zbw Tryz.f75 15) (gC a b n m s j top (top/v1,top % v1)) (dH u V q)
 (fun e tm hp=>e= .exit 2∧ ∃g rest:Int,(0≤g∧g<4294967296∧U<g*D+D∧g*D-D≤U)∧Ent 0 tm hp (gC a b n m s j top (g,rest)) (dH u V q)):=by
 have hD:0<D:=by
  have h1:0<(v1*4294967296+v2)*P:=Int.mul_pos (by omega) hP
  omega
 have hU0':0≤U:=by
  have h1:0≤(top*4294967296+u2)*P:=Int.mul_nonneg (by omega) (by omega)
  omega
 have hq:=Int.emod_add_mul_ediv U D
 have hq1:=Int.emod_nonneg U (show D≠0 by omega)
 have hq2:=Int.emod_lt_of_pos U hD
 have hqq:(U/D)*D≤U:=by rw[Int.mul_comm];omega
 have hq0:0≤U/D:=Int.ediv_nonneg hU0' (by omega)
 have up: ∀g:Int,U/D≤g→U<g*D+D:=fun g hg=>by
  have:=Int.mul_le_mul_of_nonneg_right hg (show 0≤D by omega)
  rw[Int.mul_comm (U/D) D]at this
  omega
 refine Zaz Zah rfl (gC a b n m s j top) (fun _=>dH u V q)
  (fun t=>0≤t.1∧t.1≤4294967297∧t.1*v1+t.2=top∧0≤t.2∧t.2<4294967296∧U/D≤t.1) (fun t=>t.1.toNat) ?_ (top/v1,top % v1) ?_ ZaU
 ·rintro⟨g,rest⟩ ⟨hg0,hg1,hgr,hr0,hr1,hgq⟩
  simp only at hg0 hg1 hgr hr0 hr1 hgq
  have e2:IntKind.i64.wrap ((n:Int)-2)=((n-2:Nat):Int):=by rw[Zar (by omega) (by omega)];omega
  have e1:IntKind.i64.wrap ((n:Int)-1)=((n-1:Nat):Int):=by rw[Zar (by omega) (by omega)];omega
  have e3:IntKind.i64.wrap (IntKind.i64.wrap ((j:Int)+(n:Int))-2)=((j+n-2:Nat):Int):=by rw[Zar (x:=(j:Int)+(n:Int)) (by omega) (by omega),Zar (by omega) (by omega)];omega
  have w1:IntKind.u64.wrap v1=v1:=Zas (by omega) (by omega)
  have nxt: ∀ (hcond:4294967296≤g∨(g<4294967296∧rest*4294967296+u2<g*v2)),1≤g∧U/D≤g-1∧(g-1)*v1+(rest+v1)=top:=by
   intro hcond
   have h3:U/D<g:=by
    rcases hcond with h|⟨_,h⟩
    ·have:U/D<4294967296:=Int.ediv_lt_of_lt_mul hD (by rw[Int.mul_comm];exact hUD)
     omega
    ·exact ZpP hP eD hV0 hD eU hU1 hg0 hgr h hqq
   refine⟨by omega,by omega, ?_⟩
   rw[←hgr];grind
  have hE: ∀g:Int,IntKind.u64.wrap (g-1)=g-1∨True:=fun _=> .inr trivial
  cases hc:decide (4294967296≤g)with
  |true=>
   have hgB:4294967296≤g:=of_decide_eq_true hc
   refine ZaX (ZaX (ZaW rfl ?_))
   iterate 3 refine Zab ?_
   iterate 20 refine Zap hc ?_
   refine ZaK hc ?_
   refine ZbW ?_
   refine brT rfl ?_
   obtain⟨k1,k2,k3⟩:=nxt (.inl hgB)
   have f1:IntKind.u64.wrap (g-1)=g-1:=Zas (by omega) (by omega)
   have f2:IntKind.u64.wrap (rest+IntKind.u64.wrap v1)=rest+v1:=by rw[w1];exact Zas (by omega) (by omega)
   refine And.intro ⟨by rw[e1];omega,by rw[e1];show((n-1:Nat):Int)<(n:Int);omega⟩ ?_
   refine Exists.intro v1 (And.intro (by show V[0+(IntKind.i64.wrap ((n:Int)-1)).toNat]? =some v1;rw[e1,Nat.zero_add,Int.toNat_natCast];exact hv1) ?_)
   refine And.intro (fun h3=> ?_) (fun h3=> ?_)
   ·have h4:4294967296≤IntKind.u64.wrap (rest+IntKind.u64.wrap v1):=of_decide_eq_true h3
    rw[f2]at h4
    have hgB1:g-1<4294967296:=by
     rcases Int.lt_or_le (g-1) 4294967296 with h5|h5
     ·exact h5
     ·have h6:=Int.mul_le_mul_of_nonneg_right h5 (show 0≤v1 by omega)
      have h7:(v1+1)*4294967296=4294967296*v1+4294967296:=by grind
      omega
    refine⟨rfl,g-1,rest+v1,⟨by omega,hgB1,up _ k2,Zkr hP eD hV0 hV1 b2 (by omega) eU hU0 (by omega) hgB1 (Zi3 k3 h4 (by omega) hgB1 b2 b2' c0)⟩, ?_⟩
    refine ZaC rfl rfl ?_ ?_
    ·exact⟨rfl,f1.symm,f2.symm,rfl,rfl,⟨rfl,rfl,rfl⟩,rfl,⟨rfl,rfl,rfl⟩,⟨rfl,rfl,rfl⟩,rfl,rfl,trivial⟩
    ·exact⟨⟨rfl,fun _=>rfl⟩,⟨rfl,fun _=>rfl⟩,⟨rfl,fun _=>rfl⟩,trivial⟩
   ·have h4: ¬4294967296≤IntKind.u64.wrap (rest+IntKind.u64.wrap v1):=of_decide_eq_false h3
    rw[f2]at h4
    refine⟨(g-1,rest+v1),⟨by show 0≤g-1;omega,by show g-1≤_;omega,k3,by show 0≤rest+v1;omega,by show rest+v1<_;omega,k2⟩,by show(g-1).toNat<g.toNat;omega, ?_⟩
    refine ZaC rfl rfl ?_ ?_
    ·exact⟨rfl,f1.symm,f2.symm,rfl,rfl,⟨rfl,rfl,rfl⟩,rfl,⟨rfl,rfl,rfl⟩,⟨rfl,rfl,rfl⟩,rfl,rfl,trivial⟩
    ·exact⟨⟨rfl,fun _=>rfl⟩,⟨rfl,fun _=>rfl⟩,⟨rfl,fun _=>rfl⟩,trivial⟩
  |false=>
   have hgB: ¬4294967296≤g:=of_decide_eq_false hc
   refine ZaX (ZaX (ZaW rfl ?_))
   iterate 3 refine Zab ?_
   iterate 4 refine Zac hc ?_
   refine Zam rfl rfl rfl hc (fun _=>rfl) ⟨by rw[e2];omega,by rw[e2];show((n-2:Nat):Int)<(n:Int);omega⟩ rfl rfl ?_
   refine Zva (x:=v2) rfl rfl rfl hc (fun _=>rfl) (by show V[0+(IntKind.i64.wrap ((n:Int)-2)).toNat]? =some v2;rw[e2,Nat.zero_add,Int.toNat_natCast];exact hv2) rfl rfl ?_
   iterate 3 refine Zac hc ?_
   refine Zam rfl rfl rfl hc (fun _=>rfl) (by decide) rfl rfl ?_
   iterate 5 refine Zac hc ?_
   refine Zam rfl rfl rfl hc (fun _=>rfl) ⟨by rw[e3];omega,by rw[e3];show((j+n-2:Nat):Int)<((m+1:Nat):Int);omega⟩ rfl rfl ?_
   refine Zva (x:=u2) rfl rfl rfl hc (fun _=>rfl) (by show u[0+(IntKind.i64.wrap (IntKind.i64.wrap ((j:Int)+(n:Int))-2)).toNat]? =some u2;rw[e3,Nat.zero_add,Int.toNat_natCast];exact hu2) rfl rfl ?_
   iterate 3 refine Zac hc ?_
   refine Zat hc ?_
   refine ZbW ?_
   have p1:0≤g*v2:=Int.mul_nonneg hg0 b2
   have p2:g*v2≤4294967295*4294967295:=Int.mul_le_mul (by omega) (by omega) b2 (by omega)
   have em:IntKind.u64.wrap (g*IntKind.u64.wrap v2)=g*v2:=by rw[Zas (x:=v2) (by omega) (by omega)];exact Zas (by omega) (by omega)
   have eo:=ZhP hr0 hr1 c0 c1
   refine And.intro (fun h2=> ?_) (fun h2=> ?_)
   ·have h2':IntKind.u64.wrap ((BitVec.ofInt IntKind.u64.bits (IntKind.u64.wrap (rest*2^min (Int.toNat 32) IntKind.u64.bits))|||BitVec.ofInt IntKind.u64.bits (IntKind.u64.wrap u2)).toNat:Int)<IntKind.u64.wrap (g*IntKind.u64.wrap v2):=of_decide_eq_true h2
    rw[eo,em]at h2'
    obtain⟨k1,k2,k3⟩:=nxt (.inr ⟨by omega,h2'⟩)
    have f1:IntKind.u64.wrap (g-1)=g-1:=Zas (by omega) (by omega)
    have f2:IntKind.u64.wrap (rest+IntKind.u64.wrap v1)=rest+v1:=by rw[w1];exact Zas (by omega) (by omega)
    refine And.intro ⟨by rw[e1];omega,by rw[e1];show((n-1:Nat):Int)<(n:Int);omega⟩ ?_
    refine Exists.intro v1 (And.intro (by show V[0+(IntKind.i64.wrap ((n:Int)-1)).toNat]? =some v1;rw[e1,Nat.zero_add,Int.toNat_natCast];exact hv1) ?_)
    refine And.intro (fun h3=> ?_) (fun h3=> ?_)
    ·have h4:4294967296≤IntKind.u64.wrap (rest+IntKind.u64.wrap v1):=of_decide_eq_true h3
     rw[f2]at h4
     have hgB1:g-1<4294967296:=by
      rcases Int.lt_or_le (g-1) 4294967296 with h5|h5
      ·exact h5
      ·have h6:=Int.mul_le_mul_of_nonneg_right h5 (show 0≤v1 by omega)
       have h7:(v1+1)*4294967296=4294967296*v1+4294967296:=by grind
       omega
     refine⟨rfl,g-1,rest+v1,⟨by omega,hgB1,up _ k2,Zkr hP eD hV0 hV1 b2 (by omega) eU hU0 (by omega) hgB1 (Zi3 k3 h4 (by omega) hgB1 b2 b2' c0)⟩, ?_⟩
     refine ZaC rfl rfl ?_ ?_
     ·exact⟨rfl,f1.symm,f2.symm,rfl,rfl,⟨rfl,rfl,rfl⟩,rfl,⟨rfl,rfl,rfl⟩,⟨rfl,rfl,rfl⟩,rfl,rfl,trivial⟩
     ·exact⟨⟨rfl,fun _=>rfl⟩,⟨rfl,fun _=>rfl⟩,⟨rfl,fun _=>rfl⟩,trivial⟩
    ·have h4: ¬4294967296≤IntKind.u64.wrap (rest+IntKind.u64.wrap v1):=of_decide_eq_false h3
     rw[f2]at h4
     refine⟨(g-1,rest+v1),⟨by show 0≤g-1;omega,by show g-1≤_;omega,k3,by show 0≤rest+v1;omega,by show rest+v1<_;omega,k2⟩,by show(g-1).toNat<g.toNat;omega, ?_⟩
     refine ZaC rfl rfl ?_ ?_
     ·exact⟨rfl,f1.symm,f2.symm,rfl,rfl,⟨rfl,rfl,rfl⟩,rfl,⟨rfl,rfl,rfl⟩,⟨rfl,rfl,rfl⟩,rfl,rfl,trivial⟩
     ·exact⟨⟨rfl,fun _=>rfl⟩,⟨rfl,fun _=>rfl⟩,⟨rfl,fun _=>rfl⟩,trivial⟩
   ·have h2': ¬IntKind.u64.wrap ((BitVec.ofInt IntKind.u64.bits (IntKind.u64.wrap (rest*2^min (Int.toNat 32) IntKind.u64.bits))|||BitVec.ofInt IntKind.u64.bits (IntKind.u64.wrap u2)).toNat:Int)<IntKind.u64.wrap (g*IntKind.u64.wrap v2):=of_decide_eq_false h2
    rw[eo,em]at h2'
    refine⟨rfl,g,rest,⟨hg0,by omega,up _ hgq,Zkr hP eD hV0 hV1 b2 (by omega) eU hU0 hg0 (by omega) (Zqw hgr (by omega))⟩, ?_⟩
    refine ZaC rfl rfl ?_ ?_
    ·exact⟨rfl,rfl,rfl,rfl,rfl,⟨rfl,rfl,rfl⟩,rfl,⟨rfl,rfl,rfl⟩,⟨rfl,rfl,rfl⟩,rfl,rfl,trivial⟩
    ·exact⟨⟨rfl,fun _=>rfl⟩,⟨rfl,fun _=>rfl⟩,⟨rfl,fun _=>rfl⟩,trivial⟩
 ·have hmod:=Int.emod_add_mul_ediv top v1
  rw[Int.mul_comm v1]at hmod
  refine⟨Int.ediv_nonneg ht0 (by omega), ?_,by show top/v1*v1+top % v1=top;omega,Int.emod_nonneg _ (by omega),Int.lt_trans (Int.emod_lt_of_pos top (show 0<v1 by omega)) b1', ?_⟩
  ·show top/v1≤4294967297
   have:top/v1<4294967298:=Int.ediv_lt_of_lt_mul (by omega) (by omega)
   omega
  ·exact Ztp hP eD hV0 b2 eU hU1 c1 (by omega) hq0 hqq
end Go.Proofs.YtkhpbclcfldhmaaGreatDoor
/-
 Small lemmas for walks.
-/
namespace Go.Proofs.YtkhpbclcfldhmaaGreatDoor
open Go.Am Go.Tx
theorem ZeU {α:Type} {l:List α} {n:Nat} (h:l.length=n):sub l 0 n=l:=by
 rw[sub,List.drop_zero,List.take_of_length_le (by omega)]
abbrev nt (k:Nat):SV:= .v (.i .i64) (k:Int)
theorem cin {i n:Nat} (h:i<n):(0:Int)≤(i:Int)∧(i:Int)<((n:Nat):Int):=by omega
theorem Zc6 {k:Nat} (h:k<1000000):IntKind.i64.wrap ((k:Int)+1)=((k+1:Nat):Int):=Zar (by omega) (by omega)
end Go.Proofs.YtkhpbclcfldhmaaGreatDoor
