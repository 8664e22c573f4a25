import Derived.Test.YtkhpbclcfldhmaaGreatDoorTx9
import Derived.Test.YtkhpbclcfldhmaaGreatDoorTys
import Derived.Test.YtkhpbclcfldhmaaGreatDoorDe
set_option linter.constructorNameAsVariable false
set_option linter.unusedSimpArgs false
set_option linter.unusedVariables false
namespace Go.Proofs.YtkhpbclcfldhmaaGreatDoor
open Go.Am Go.Tx Dv
set_option maxRecDepth 100000
theorem Zar {x:Int} (h0: -9223372036854775808≤x) (h1:x<9223372036854775808):IntKind.i64.wrap x=x:=by
 unfold IntKind.wrap IntKind.signed IntKind.bits
 simp only[Bool.true_and]
 split<;>rename_i h<;>simp only[decide_eq_true_eq]at h<;>omega
abbrev Za8 (l:List Int):SV:= .v (.l (.i .u32)) l
theorem Zas {x:Int} (h0:0≤x) (h1:x<18446744073709551616):IntKind.u64.wrap x=x:=by
 unfold IntKind.wrap IntKind.signed IntKind.bits
 simp only[Bool.false_and,Bool.false_eq_true,if_false]
 omega
theorem Za0 (x:Int):IntKind.u32.wrap x=x % 4294967296:=by
 unfold IntKind.wrap IntKind.signed IntKind.bits
 simp
theorem ZnV (x:Int):x.fdiv (2^min (Int.toNat 32) IntKind.u64.bits)=x/4294967296:=by
 show x.fdiv 4294967296=_
 rw[Int.fdiv_eq_ediv_of_nonneg _ (by omega)]
def Zzt (a b:List Int) (s:Nat×Int×List Int):TM:=[(0,Za8 a),(1,Za8 b),(5, .ref 0 0 (a.length+1) none),(6, .v (.i .u64) s.2.1),(20, .v (.i .i64) (a.length:Int)),(21, .v (.i .i64) (s.1:Int))]
set_option maxHeartbeats 4000000 in
theorem Zsf (a b:List Int) (ha:Wd a) (hb:Wd b) (hab:b.length≤a.length) (hl:a.length≤1000000):LoopOK Tryz.prog Zao 0 ⟨65,0,57⟩ (Zbw Tryz.f65 6) (Zzt a b (0,0,List.replicate (a.length+1) 0)) [.row (.i .u32) (List.replicate (a.length+1) (0:Int)) true]
 (fun e tm hp=>e= .exit 0∧ ∃c out X,0≤c∧c≤1∧out.length=a.length+1∧Wd (out.take a.length)∧wv (out.take a.length)+4294967296^a.length*c=wv a+wv b∧tm=(22,X)::Zzt a b (a.length,c,out)∧hp=[.row (.i .u32) out true]):=by
 refine Zaz Zah rfl (Zzt a b) (fun s=> [.row (.i .u32) s.2.2 true])
  (fun s=>s.1≤a.length∧0≤s.2.1∧s.2.1≤1∧s.2.2.length=a.length+1∧Wd (s.2.2.take s.1)∧wv (s.2.2.take s.1)+4294967296^s.1*s.2.1=wv (a.take s.1)+wv (b.take s.1)) (fun s=>a.length-s.1) ?_ (0,0,List.replicate (a.length+1) 0) ?_ ?_
 ·rintro⟨i,c,out⟩ ⟨hi,hc0,hc1,hlen,hwd,hval⟩
  simp only at hi hc0 hc1 hlen hwd hval
  refine And.intro (fun h=> ?_) (fun h=> ?_)
  ·have hlt:i<a.length:=by have:=of_decide_eq_true h;simp only at this;omega
   have hai:=ha _ (List.getElem_mem hlt)
   have e1:IntKind.u64.wrap a[i]=a[i]:=Zas (by omega) (by omega)
   have e2:IntKind.u64.wrap (c+IntKind.u64.wrap a[i])=c+a[i]:=by rw[e1];exact Zas (by omega) (by omega)
   have ho:i<out.length:=by omega
   have wd': ∀c':Int,Wd ((out.set i (c' % 4294967296)).take (i+1)):=by
    intro c' x hx
    rw[Zb7 ho]at hx
    rcases List.mem_append.1 hx with hx|hx
    ·exact hwd x hx
    ·rw[List.mem_singleton.1 hx];omega
   have wi:IntKind.i64.wrap ((i:Int)+1)=((i+1:Nat):Int):=Zar (by omega) (by omega)
   refine⟨a[i],Int.natCast_nonneg i,List.getElem?_eq_getElem hlt, ?_⟩
   refine And.intro (fun h2=> ?_) (fun h2=> ?_)
   ·have hlb:i<b.length:=by have:=of_decide_eq_true h2;simp only at this;omega
    have hbi:=hb _ (List.getElem_mem hlb)
    have e3:IntKind.u64.wrap b[i]=b[i]:=Zas (by omega) (by omega)
    have e4:IntKind.u64.wrap (IntKind.u64.wrap (c+IntKind.u64.wrap a[i])+IntKind.u64.wrap b[i])=c+a[i]+b[i]:=by rw[e2,e3];exact Zas (by omega) (by omega)
    refine⟨b[i],Int.natCast_nonneg i,List.getElem?_eq_getElem hlb, ?_⟩
    refine And.intro ⟨Int.natCast_nonneg i,by show(i:Int)<((a.length+1:Nat):Int);omega⟩ ?_
    refine Exists.intro (out[i]) (And.intro (by simp) ?_)
    refine And.intro (by decide) ?_
    have ec:(c+a[i]+b[i])/4294967296=(IntKind.u64.wrap (IntKind.u64.wrap (c+IntKind.u64.wrap a[i])+IntKind.u64.wrap b[i])).fdiv (2^min (Int.toNat 32) IntKind.u64.bits):=by rw[e4,ZnV]
    have er:out.set i ((c+a[i]+b[i]) % 4294967296)=out.set (0+(i:Int).toNat) (IntKind.u32.wrap (IntKind.u64.wrap (IntKind.u64.wrap (c+IntKind.u64.wrap a[i])+IntKind.u64.wrap b[i]))):=by rw[e4,Za0,Int.toNat_natCast,Nat.zero_add]
    refine⟨(i+1,(c+a[i]+b[i])/4294967296,out.set i ((c+a[i]+b[i]) % 4294967296)),⟨hlt, ?_, ?_, ?_,wd' _, ?_⟩, ?_, ?_⟩
    ·show 0≤(c+a[i]+b[i])/4294967296;omega
    ·show(c+a[i]+b[i])/4294967296≤1;omega
    ·show(out.set _ _).length=_;simpa using hlen
    ·exact Zpf hlt ho (Zbx hlb) rfl hval
    ·show a.length-(i+1)<a.length-i;omega
    ·refine ZaC rfl rfl ?_ ?_
     ·exact⟨rfl,rfl,⟨rfl,rfl,rfl⟩,ec,rfl,wi.symm,trivial⟩
     ·exact⟨⟨er,fun _=>rfl⟩,trivial⟩
   ·have hlb:b.length≤i:=by have:=of_decide_eq_false h2;simp only at this;omega
    have hz:wv (b.take (i+1))=wv (b.take i)+4294967296^i*0:=by rw[List.take_of_length_le (by omega),List.take_of_length_le hlb];omega
    refine And.intro ⟨Int.natCast_nonneg i,by show(i:Int)<((a.length+1:Nat):Int);omega⟩ ?_
    refine Exists.intro (out[i]) (And.intro (by simp) ?_)
    refine And.intro (by decide) ?_
    have ec:(c+a[i]+0)/4294967296=(IntKind.u64.wrap (c+IntKind.u64.wrap a[i])).fdiv (2^min (Int.toNat 32) IntKind.u64.bits):=by rw[e2,ZnV,Int.add_zero]
    have er:out.set i ((c+a[i]+0) % 4294967296)=out.set (0+(i:Int).toNat) (IntKind.u32.wrap (IntKind.u64.wrap (c+IntKind.u64.wrap a[i]))):=by rw[e2,Za0,Int.toNat_natCast,Nat.zero_add,Int.add_zero]
    refine⟨(i+1,(c+a[i]+0)/4294967296,out.set i ((c+a[i]+0) % 4294967296)),⟨hlt, ?_, ?_, ?_,wd' _, ?_⟩, ?_, ?_⟩
    ·show 0≤(c+a[i]+0)/4294967296;omega
    ·show(c+a[i]+0)/4294967296≤1;omega
    ·show(out.set _ _).length=_;simpa using hlen
    ·exact Zpf hlt ho hz rfl hval
    ·show a.length-(i+1)<a.length-i;omega
    ·refine ZaC rfl rfl ?_ ?_
     ·exact⟨rfl,rfl,⟨rfl,rfl,rfl⟩,ec,rfl,wi.symm,trivial⟩
     ·exact⟨⟨er,fun _=>rfl⟩,trivial⟩
  ·have he:i=a.length:=by have:=of_decide_eq_false h;simp only at this;omega
   subst he
   rw[List.take_length,List.take_of_length_le hab]at hval
   exact⟨rfl,c,out,_,hc0,hc1,hlen,hwd,hval,rfl,rfl⟩
 ·exact⟨Nat.zero_le _,Int.le_refl _,by show(0:Int)≤1;decide,by simp,by intro x hx;simp at hx,by simp[wv]⟩
 ·exact ZaU
set_option maxHeartbeats 4000000 in
theorem Zqz (a b:List Int) (ha:Wd a) (hb:Wd b) (hl:a.length≤1000000) (hl2:b.length≤1000000):PureOK Tryz.prog Zao 65 [Za8 a,Za8 b] (fun V=> ∃out,V=Za8 out∧Wd out∧out.length≤max a.length b.length+1∧wv out=wv a+wv b):=by
 refine Zae Zah Tryz.func65 ?_
 have w1: ∀a:List Int,a.length≤1000000→IntKind.i64.wrap ((a.length:Int)+1)=((a.length+1:Nat):Int):=fun a h=>Zar (by omega) (by omega)
 have w2: ∀a:List Int,a.length≤1000000→ ∀x:Int,x=((a.length+1:Nat):Int)→0≤x∧x≤x∧(4:Int)*x≤281474976710656∧x<9223372036854775808:=fun a h x hx=>by omega
 have w3: ∀a:List Int,∀x:Int,x=((a.length+1:Nat):Int)→a.length+1=x.toNat:=fun a x hx=>by omega
 have w4: ∀a:List Int,∀x:Int,x=((a.length+1:Nat):Int)→List.replicate (a.length+1) (0:Int)=List.replicate x.toNat 0:=fun a x hx=>by rw[←w3 a x hx]
 have fin: ∀ (a b out:List Int) (c:Int),a.length≤1000000→0≤c→c≤1→out.length=a.length+1→Wd (out.take a.length)→wv (out.take a.length)+4294967296^a.length*c=wv a+wv b→
  sub (out.set (0+(a.length:Int).toNat) (IntKind.u32.wrap c)) 0 (a.length+1)=out.set a.length (c % 4294967296)∧Wd (out.set a.length (c % 4294967296))∧(out.set a.length (c % 4294967296)).length=a.length+1∧wv (out.set a.length (c % 4294967296))=wv a+wv b:=by
  intro a b out c hl hc0 hc1 hlen hwd hval
  have ho:a.length<out.length:=by omega
  have hx: ∀x:Int,out.set a.length x=out.take a.length++ [x]:=fun x=>by
   rw[←Zb7 ho,List.take_of_length_le (by rw[List.length_set];omega)]
  refine⟨by rw[Int.toNat_natCast,Nat.zero_add,Za0,sub,List.drop_zero,List.take_of_length_le (by rw[List.length_set];omega)], ?_,by rw[List.length_set];omega, ?_⟩
  ·rw[hx]
   intro x hx
   rcases List.mem_append.1 hx with hx|hx
   ·exact hwd x hx
   ·rw[List.mem_singleton.1 hx];omega
  ·rw[hx,Zdy,List.length_take,Nat.min_eq_left (Nat.le_of_lt ho),←hval,show c % 4294967296=c by omega]
   simp[wv]
 refine And.intro (fun h=> ?_) (fun h=> ?_)
 ·have hab:a.length≤b.length:=by have:=of_decide_eq_true h;omega
  refine And.intro (w2 b hl2 _ (w1 b hl2)) ?_
  refine((Zsf b a hb ha hab hl2).ent ?_).mono ?_
  ·refine ZaC rfl rfl ?_ ?_
   ·exact⟨rfl,rfl,⟨rfl,w3 b _ (w1 b hl2),w3 b _ (w1 b hl2)⟩,rfl,rfl,rfl,trivial⟩
   ·exact⟨⟨w4 b _ (w1 b hl2),fun _=>rfl⟩,trivial⟩
  rintro _ _ _ ⟨rfl,c,out,X,hc0,hc1,hlen,hwd,hval,rfl,rfl⟩
  obtain⟨f1,f2,f3,f4⟩:=fin b a out c hl2 hc0 hc1 hlen hwd hval
  refine And.intro ⟨Int.natCast_nonneg _,by show(b.length:Int)<((b.length+1:Nat):Int);omega⟩ ?_
  refine Exists.intro (out[b.length]) (And.intro (by simp) ?_)
  refine And.intro (by show 0+(b.length+1)≤(out.set _ _).length;rw[List.length_set];omega) ?_
  exact⟨_,congrArg Za8 f1,f2,by rw[f3];omega,by rw[f4,Int.add_comm]⟩
 ·have hab:b.length≤a.length:=by have:=of_decide_eq_false h;omega
  refine And.intro (w2 a hl _ (w1 a hl)) ?_
  refine((Zsf a b ha hb hab hl).ent ?_).mono ?_
  ·refine ZaC rfl rfl ?_ ?_
   ·exact⟨rfl,rfl,⟨rfl,w3 a _ (w1 a hl),w3 a _ (w1 a hl)⟩,rfl,rfl,rfl,trivial⟩
   ·exact⟨⟨w4 a _ (w1 a hl),fun _=>rfl⟩,trivial⟩
  rintro _ _ _ ⟨rfl,c,out,X,hc0,hc1,hlen,hwd,hval,rfl,rfl⟩
  obtain⟨f1,f2,f3,f4⟩:=fin a b out c hl hc0 hc1 hlen hwd hval
  refine And.intro ⟨Int.natCast_nonneg _,by show(a.length:Int)<((a.length+1:Nat):Int);omega⟩ ?_
  refine Exists.intro (out[a.length]) (And.intro (by simp) ?_)
  refine And.intro (by show 0+(a.length+1)≤(out.set _ _).length;rw[List.length_set];omega) ?_
  exact⟨_,congrArg Za8 f1,f2,by rw[f3];omega,f4⟩
theorem ZhP {r x:Int} (h0:0≤r) (h1:r<4294967296) (h2:0≤x) (h3:x<4294967296):
 IntKind.u64.wrap ((BitVec.ofInt IntKind.u64.bits (IntKind.u64.wrap (r*2^min (Int.toNat 32) IntKind.u64.bits))|||BitVec.ofInt IntKind.u64.bits (IntKind.u64.wrap x)).toNat:Int)=r*4294967296+x:=by
 obtain⟨n,rfl⟩: ∃n:Nat,r=n:=⟨r.toNat,by omega⟩
 obtain⟨m,rfl⟩: ∃m:Nat,x=m:=⟨x.toNat,by omega⟩
 have e1:IntKind.u64.wrap ((n:Int)*2^min (Int.toNat 32) IntKind.u64.bits)=((n*4294967296:Nat):Int):=by
  show IntKind.u64.wrap ((n:Int)*4294967296)=_
  rw[Zas (by omega) (by omega)];omega
 have e2:IntKind.u64.wrap (m:Int)=(m:Int):=Zas (by omega) (by omega)
 rw[e1,e2]
 show IntKind.u64.wrap ((BitVec.ofInt 64 ((n*4294967296:Nat):Int)|||BitVec.ofInt 64 (m:Int)).toNat:Int)=_
 rw[BitVec.ofInt_natCast,BitVec.ofInt_natCast,BitVec.toNat_or,BitVec.toNat_ofNat,BitVec.toNat_ofNat,Nat.mod_eq_of_lt (by omega),Nat.mod_eq_of_lt (by omega)]
 have e3:n*4294967296|||m=n*4294967296+m:=by
  have:=Nat.shiftLeft_add_eq_or_of_lt (a:=n) (b:=m) (i:=32) (by omega)
  rw[Nat.shiftLeft_eq]at this
  exact this.symm
 rw[e3,Zas (by omega) (by omega)];omega
set_option maxHeartbeats 4000000 in
theorem Zjr (p:FuncId→Option (List PV→Option PV)) (hp:p 77=none) (a:List Int) (d:Int) (ha:Wd a) (hd0:0<d) (hd1:d<4294967296) (hl:a.length≤1000000):PureOK Tryz.prog (Zpj p) 77 [Za8 a, .v (.i .u32) d] (fun V=> ∃q,V= .tup [Za8 q, .v (.i .u32) (wv a % d)]∧Wd q∧q.length=a.length∧wv q=wv a/d):=by
 refine ZiH (fn:=Tryz.f77) (code:=Zdg Tryz.f77) Zah (by kernel_rfl) hp Tryz.func77 (by kernel_rfl) (Nat.le_of_ble_eq_true (by kernel_rfl)) ?_
 have w1:IntKind.i64.wrap ((a.length:Int)-1)=(a.length:Int)-1:=Zar (by omega) (by omega)
 have w2:0≤(a.length:Int)∧(a.length:Int)≤a.length∧(4:Int)*a.length≤281474976710656∧(a.length:Int)<9223372036854775808:=by omega
 have w3:a.length=(a.length:Int).toNat:=(Int.toNat_natCast _).symm
 have w4:List.replicate a.length (0:Int)=List.replicate (a.length:Int).toNat 0:=by rw[←w3]
 refine And.intro w2 ?_
 refine Zaz Zah rfl (fun(s:Nat×Int×List Int)=> [(0,Za8 a),(1, .v (.i .u32) d),(6, .ref 0 0 a.length none),(7, .v (.i .u64) s.2.1),(8, .v (.i .i64) ((s.1:Int)-1))]) (fun s=> [.row (.i .u32) s.2.2 true])
  (fun s=>s.1≤a.length∧0≤s.2.1∧s.2.1<d∧s.2.2.length=a.length∧Wd (s.2.2.drop s.1)∧wv (a.drop s.1)=d*wv (s.2.2.drop s.1)+s.2.1) (fun s=>s.1) ?_ (a.length,0,List.replicate a.length 0) ?_ ?_
 ·rintro⟨k,r,out⟩ ⟨hk,hr0,hr1,hlen,hwd,hval⟩
  simp only at hk hr0 hr1 hlen hwd hval
  refine And.intro (fun h=> ?_) (fun h=> ?_)
  ·have hk1:1≤k:=by have:=of_decide_eq_true h;simp only at this;omega
   obtain⟨m,rfl⟩: ∃m,k=m+1:=⟨k-1,by omega⟩
   have hm:m<a.length:=by omega
   have ix:(((m+1:Nat):Int)-1).toNat=m:=by omega
   have ix0:(0:Int)≤((m+1:Nat):Int)-1:=by omega
   have hg:a[(((m+1:Nat):Int)-1).toNat]? =some a[m]:=by rw[ix];exact List.getElem?_eq_getElem hm
   refine⟨by decide,a[m],ix0,hg, ?_⟩
   refine And.intro ?_ ?_
   ·show IntKind.u64.wrap d≠0
    rw[Zas (by omega) (by omega)];omega
   refine And.intro ⟨ix0,by show(((m+1:Nat):Int)-1)<(a.length:Int);omega⟩ ?_
   refine Exists.intro (out[m]) (And.intro (by show out[0+(((m+1:Nat):Int)-1).toNat]? =_;rw[ix,Nat.zero_add];exact List.getElem?_eq_getElem (by omega)) ?_)
   refine And.intro ?_ ?_
   ·show IntKind.u64.wrap d≠0
    rw[Zas (by omega) (by omega)];omega
   have ham:=ha _ (List.getElem_mem hm)
   have hor:=ZhP hr0 (show r<4294967296 by omega) ham.1 ham.2
   have hdw:IntKind.u64.wrap d=d:=Zas (by omega) (by omega)
   have hX0:0≤r*4294967296+a[m]:=by omega
   have hX1:r*4294967296+a[m]<4294967296*d:=by omega
   have hq0:0≤(r*4294967296+a[m])/d:=Int.ediv_nonneg hX0 (by omega)
   have hq1:(r*4294967296+a[m])/d<4294967296:=Int.ediv_lt_of_lt_mul hd0 hX1
   have em:(r*4294967296+a[m]) % d=(IntKind.u64.wrap ((BitVec.ofInt IntKind.u64.bits (IntKind.u64.wrap (r*2^min (Int.toNat 32) IntKind.u64.bits))|||BitVec.ofInt IntKind.u64.bits (IntKind.u64.wrap a[m])).toNat:Int)).tmod (IntKind.u64.wrap d):=by
    rw[hor,hdw,Int.tmod_eq_emod_of_nonneg hX0]
   have eq':(r*4294967296+a[m])/d=IntKind.u32.wrap (IntKind.u64.wrap ((IntKind.u64.wrap ((BitVec.ofInt IntKind.u64.bits (IntKind.u64.wrap (r*2^min (Int.toNat 32) IntKind.u64.bits))|||BitVec.ofInt IntKind.u64.bits (IntKind.u64.wrap a[m])).toNat:Int)).tdiv (IntKind.u64.wrap d))):=by
    rw[hor,hdw,Int.tdiv_eq_ediv_of_nonneg hX0,Zas hq0 (by omega),Za0,Int.emod_eq_of_lt hq0 hq1]
   have er:out.set m ((r*4294967296+a[m])/d)=out.set (0+(((m+1:Nat):Int)-1).toNat) (IntKind.u32.wrap (IntKind.u64.wrap ((IntKind.u64.wrap ((BitVec.ofInt IntKind.u64.bits (IntKind.u64.wrap (r*2^min (Int.toNat 32) IntKind.u64.bits))|||BitVec.ofInt IntKind.u64.bits (IntKind.u64.wrap a[m])).toNat:Int)).tdiv (IntKind.u64.wrap d)))):=by
    rw[←eq',ix,Nat.zero_add]
   have wi:(m:Int)-1=IntKind.i64.wrap (((m+1:Nat):Int)-1-1):=by rw[Zar (by omega) (by omega)];omega
   have hds: ∀x:Int,(out.set m x).drop m=x::out.drop (m+1):=fun x=>by
    rw[List.drop_eq_getElem_cons (by rw[List.length_set];omega),List.getElem_set_self,List.drop_set_of_lt (by omega)]
   have hda:a.drop m=a[m]::a.drop (m+1):=List.drop_eq_getElem_cons hm
   refine⟨(m,(r*4294967296+a[m]) % d,out.set m ((r*4294967296+a[m])/d)),⟨?_, ?_, ?_, ?_, ?_, ?_⟩, ?_, ?_⟩
   ·show m≤a.length;omega
   ·show 0≤(r*4294967296+a[m]) % d;exact Int.emod_nonneg _ (by omega)
   ·show(r*4294967296+a[m]) % d<d;exact Int.emod_lt_of_pos _ hd0
   ·show(out.set _ _).length=_;simpa using hlen
   ·show Wd ((out.set m _).drop m)
    rw[hds]
    intro x hx
    rcases List.mem_cons.1 hx with rfl|hx
    ·exact⟨hq0,hq1⟩
    ·exact hwd x hx
   ·show wv (a.drop m)=d*wv ((out.set m _).drop m)+(r*4294967296+a[m]) % d
    rw[hds,hda,wv,wv,hval]
    have e:=Int.emod_add_mul_ediv (r*4294967296+a[m]) d
    generalize wv (out.drop (m+1))=v
    have e2:d*(4294967296*v)=4294967296*(d*v):=by rw[←Int.mul_assoc,Int.mul_comm d,Int.mul_assoc]
    rw[Int.mul_add d,e2]
    generalize d*v=t
    generalize d*((r*4294967296+a[m])/d)=z at e⊢
    omega
   ·show m<m+1;omega
   ·refine ZaC rfl rfl ?_ ?_
    ·exact⟨rfl,rfl,⟨rfl,rfl,rfl⟩,em,wi,trivial⟩
    ·exact⟨⟨er,fun _=>rfl⟩,trivial⟩
  ·have hk0:k=0:=by have:=of_decide_eq_false h;simp only at this;omega
   subst hk0
   refine And.intro (by show 0+a.length≤out.length;omega) ?_
   rw[List.drop_zero]at hwd
   rw[List.drop_zero,List.drop_zero]at hval
   have hs:sub out 0 a.length=out:=by rw[sub,List.drop_zero,List.take_of_length_le (by omega)]
   have e1:wv a % d=r:=by rw[hval,Int.add_comm,Int.add_mul_emod_self_left,Int.emod_eq_of_lt hr0 hr1]
   have e2:wv a/d=wv out:=by rw[hval,Int.add_comm,Int.add_mul_ediv_left _ _ (by omega),Int.ediv_eq_zero_of_lt hr0 hr1,Int.zero_add]
   have e3:IntKind.u32.wrap r=r:=by rw[Za0,Int.emod_eq_of_lt hr0 (by omega)]
   have e4:SV.tup [Za8 (sub out 0 a.length), .v (.i .u32) (IntKind.u32.wrap r)]=SV.tup [Za8 out, .v (.i .u32) (wv a % d)]:=by rw[hs,e1,e3]
   exact⟨out,e4,hwd,hlen,e2.symm⟩
 ·exact⟨Nat.le_refl _,Int.le_refl _,hd0,by show(List.replicate _ _).length=_;simp,by intro x hx;simp at hx,by simp[wv]⟩
 ·refine ZaC rfl rfl ?_ ?_
  ·exact⟨rfl,rfl,⟨rfl,w3,w3⟩,rfl,w1.symm,trivial⟩
  ·exact⟨⟨w4,fun _=>rfl⟩,trivial⟩
theorem Zqr (a:List Int) (d:Int) (ha:Wd a) (hd0:0<d) (hd1:d<4294967296) (hl:a.length≤1000000):PureOK Tryz.prog Zao 77 [Za8 a, .v (.i .u32) d] (fun V=> ∃q,V= .tup [Za8 q, .v (.i .u32) (wv a % d)]∧Wd q∧q.length=a.length∧wv q=wv a/d):=Zjr prims rfl a d ha hd0 hd1 hl
end Go.Proofs.YtkhpbclcfldhmaaGreatDoor
