/-
 large.shifted: words shifted up by some bits.
-/
import Derived.Test.YtdnodlkdndfplaaGreatDoorT7
set_option linter.constructorNameAsVariable false
set_option linter.unusedSimpArgs false
set_option linter.unusedVariables false
namespace Go.Proofs.YtdnodlkdndfplaaGreatDoor
open Go.Am Go.Tx Dv
set_option maxRecDepth 100000
theorem Zs7 {c x:Int} {s:Nat} (hs:s≤31) (hc0:0≤c) (hc1:c<2^s) (hx0:0≤x) (hx1:x<4294967296):
 IntKind.u64.wrap ((BitVec.ofInt IntKind.u64.bits c|||BitVec.ofInt IntKind.u64.bits (IntKind.u64.wrap (IntKind.u64.wrap x*2^min (Int.toNat (s:Int)) IntKind.u64.bits))).toNat:Int)=x*2^s+c:=by
 obtain⟨n,rfl⟩: ∃n:Nat,x=n:=⟨x.toNat,by omega⟩
 obtain⟨m,rfl⟩: ∃m:Nat,c=m:=⟨c.toNat,by omega⟩
 have hm:m<2^s:=by
  have e:((2:Nat):Int)=2:=rfl
  rw[←e,←Int.natCast_pow]at hc1
  exact Int.ofNat_lt.1 hc1
 have hp:(2:Nat)^s≤2^31:=Nat.pow_le_pow_right (by decide) hs
 have hn:n*2^s≤4294967295*2^31:=Nat.mul_le_mul (by omega) hp
 have em:min (Int.toNat (s:Int)) IntKind.u64.bits=s:=by show min s 64=s;omega
 have e1:IntKind.u64.wrap (IntKind.u64.wrap (n:Int)*2^min (Int.toNat (s:Int)) IntKind.u64.bits)=((n*2^s:Nat):Int):=by
  rw[em,Zap (x:=(n:Int)) (by omega) (by omega)]
  have:(n:Int)*2^s=((n*2^s:Nat):Int):=by rw[Int.natCast_mul,Int.natCast_pow];rfl
  rw[this,Zap (by omega) (by omega)]
 rw[e1]
 show IntKind.u64.wrap ((BitVec.ofInt 64 (m:Int)|||BitVec.ofInt 64 ((n*2^s:Nat):Int)).toNat:Int)=_
 rw[BitVec.ofInt_natCast,BitVec.ofInt_natCast,BitVec.toNat_or,BitVec.toNat_ofNat,BitVec.toNat_ofNat,Nat.mod_eq_of_lt (by omega),Nat.mod_eq_of_lt (by omega)]
 have e3:m|||n*2^s=n*2^s+m:=by
  have:=Nat.shiftLeft_add_eq_or_of_lt (a:=n) (b:=m) (i:=s) hm
  rw[Nat.shiftLeft_eq]at this
  rw[Nat.or_comm]
  exact this.symm
 rw[e3,Zap (by omega) (by omega),Int.natCast_add,Int.natCast_mul,Int.natCast_pow]
 rfl
theorem ZmD {a out:List Int} {i:Nat} {c v z:Int} (hi:i<a.length) (ho:i<out.length) (hv:v=a[i]*z+c)
 (h:wv (out.take i)+4294967296^i*c=wv (a.take i)*z):wv ((out.set i (v % 4294967296)).take (i+1))+4294967296^(i+1)*(v/4294967296)=wv (a.take (i+1))*z:=by
 rw[Zby ho,ZcJ,Za4 hi,List.length_take,Nat.min_eq_left (Nat.le_of_lt ho),Int.pow_succ]
 have e:v % 4294967296+4294967296*(v/4294967296)=v:=Int.emod_add_mul_ediv v 4294967296
 have:wv [v % 4294967296]=v % 4294967296:=by simp[wv]
 rw[this,Int.mul_assoc,Int.add_assoc,←Int.mul_add,e,hv,Int.add_mul,←h]
 grind
set_option maxHeartbeats 4000000 in
theorem ZjV (a:List Int) (s:Nat) (ha:Wd a) (hs:s≤31) (hl:a.length≤1000000):ImpOK Tryz.prog Zau 175 [ZaX a, .v (.i .i64) (s:Int)] (fun V hp sf=> ∃out,V= .ref 0 0 (a.length+1) none∧hp=[.row (.i .u32) out true]∧sf=true∧Wd out∧out.length=a.length+1∧wv out=wv a*2^s):=by
 refine ZqD (fn:=Tryz.f175) (code:=ZdY Tryz.f175) Zao (by kernel_rfl) Tryz.func175 (by kernel_rfl) (Nat.le_of_ble_eq_true (by kernel_rfl)) ?_
 have w1:IntKind.i64.wrap ((a.length:Int)+1)=((a.length+1:Nat):Int):=Zan (by omega) (by omega)
 have w2: ∀x:Int,x=((a.length+1:Nat):Int)→0≤x∧x≤x∧(4:Int)*x≤281474976710656∧x<9223372036854775808:=fun x hx=>by omega
 have w3: ∀x:Int,x=((a.length+1:Nat):Int)→a.length+1=x.toNat:=fun x hx=>by omega
 have w4: ∀x:Int,x=((a.length+1:Nat):Int)→List.replicate (a.length+1) (0:Int)=List.replicate x.toNat 0:=fun x hx=>by rw[←w3 x hx]
 have hp:(0:Int)<2^s:=Int.pow_pos (by decide)
 have hp2:(2:Int)^s≤2^31:=Zfd (b:=2) (by decide) hs
 refine And.intro (w2 _ w1) ?_
 refine ZaC Zao rfl (fun(t:Nat×Int×List Int)=> [(0,ZaX a),(1, .v (.i .i64) (s:Int)),(5, .ref 0 0 (a.length+1) none),(6, .v (.i .u64) t.2.1),(13,ZaX a),(14, .v (.i .i64) (a.length:Int)),(15, .v (.i .i64) (t.1:Int))]) (fun t=> [.row (.i .u32) t.2.2 true])
  (fun t=>t.1≤a.length∧0≤t.2.1∧t.2.1<2^s∧t.2.2.length=a.length+1∧Wd (t.2.2.take t.1)∧wv (t.2.2.take t.1)+4294967296^t.1*t.2.1=wv (a.take t.1)*2^s) (fun t=>a.length-t.1) ?_ (0,0,List.replicate (a.length+1) 0) ?_ ?_
 ·rintro⟨i,c,out⟩ ⟨hi,hc0,hc1,hlen,hwd,hval⟩
  simp only at hi hc0 hc1 hlen hwd hval
  refine And.intro (fun h=> ?_) (fun h=> ?_)
  ·have hlt:i<a.length:=by have:=of_decide_eq_true h;simp only at this;omega
   have hai:=ha _ (List.getElem_mem hlt)
   have ho:i<out.length:=by omega
   have wi:IntKind.i64.wrap ((i:Int)+1)=((i+1:Nat):Int):=Zan (by omega) (by omega)
   obtain⟨v,hv⟩: ∃v,v=a[i]*2^s+c:=⟨_,rfl⟩
   have ev:=Zs7 hs hc0 hc1 hai.1 hai.2
   rw[←hv]at ev
   have hv0:0≤v:=by have:=Int.mul_nonneg hai.1 (Int.le_of_lt hp);omega
   have hv1:v<4294967296*2^s:=by
    have:=Int.mul_le_mul_of_nonneg_right (show a[i]≤4294967295 by omega) (Int.le_of_lt hp)
    omega
   refine⟨a[i],Int.natCast_nonneg i,List.getElem?_eq_getElem hlt, ?_⟩
   refine And.intro (Int.natCast_nonneg s) ?_
   refine And.intro ⟨Int.natCast_nonneg i,by show(i:Int)<((a.length+1:Nat):Int);omega⟩ ?_
   refine Exists.intro (out[i]) (And.intro (by simp) ?_)
   refine And.intro (by decide) ?_
   have ec:v/4294967296=(IntKind.u64.wrap ((BitVec.ofInt IntKind.u64.bits c|||BitVec.ofInt IntKind.u64.bits (IntKind.u64.wrap (IntKind.u64.wrap a[i]*2^min (Int.toNat (s:Int)) IntKind.u64.bits))).toNat:Int)).fdiv (2^min (Int.toNat 32) IntKind.u64.bits):=by rw[ev,Zlj]
   have er:out.set i (v % 4294967296)=out.set (0+(i:Int).toNat) (IntKind.u32.wrap (IntKind.u64.wrap ((BitVec.ofInt IntKind.u64.bits c|||BitVec.ofInt IntKind.u64.bits (IntKind.u64.wrap (IntKind.u64.wrap a[i]*2^min (Int.toNat (s:Int)) IntKind.u64.bits))).toNat:Int))):=by rw[ev,ZaJ,Int.toNat_natCast,Nat.zero_add]
   refine⟨(i+1,v/4294967296,out.set i (v % 4294967296)),⟨hlt, ?_, ?_, ?_, ?_, ?_⟩, ?_, ?_⟩
   ·show 0≤v/4294967296;omega
   ·show v/4294967296<2^s;exact Int.ediv_lt_of_lt_mul (by decide) (by rw[Int.mul_comm];exact hv1)
   ·show(out.set _ _).length=_;simpa using hlen
   ·show Wd ((out.set i _).take (i+1))
    intro x hx
    rw[Zby ho]at hx
    rcases List.mem_append.1 hx with hx|hx
    ·exact hwd x hx
    ·rw[List.mem_singleton.1 hx];omega
   ·exact ZmD hlt ho hv hval
   ·show a.length-(i+1)<a.length-i;omega
   ·refine Zaq rfl rfl ?_ ?_
    ·exact⟨rfl,rfl,⟨rfl,rfl,rfl⟩,ec,rfl,rfl,wi.symm,trivial⟩
    ·exact⟨⟨er,fun _=>rfl⟩,trivial⟩
  ·have he:i=a.length:=by have:=of_decide_eq_false h;simp only at this;omega
   subst he
   have ho:a.length<out.length:=by omega
   refine And.intro ⟨Int.natCast_nonneg _,by show(a.length:Int)<((a.length+1:Nat):Int);omega⟩ ?_
   refine Exists.intro (out[a.length]) (And.intro (by simp) ?_)
   rw[List.take_length]at hval
   have hx: ∀x:Int,out.set a.length x=out.take a.length++ [x]:=fun x=>by
    rw[←Zby ho,List.take_of_length_le (by rw[List.length_set];omega)]
   have ex:out.set (0+(a.length:Int).toNat) (IntKind.u32.wrap c)=out.set a.length c:=by
    rw[Int.toNat_natCast,Nat.zero_add,ZaJ,Int.emod_eq_of_lt hc0 (by omega)]
   refine⟨.ref 0 0 (a.length+1) none,[.row (.i .u32) (out.set a.length c) true], ?_,rfl,out.set a.length c,rfl,rfl,rfl, ?_,by rw[List.length_set];exact hlen, ?_⟩
   ·refine Zaq rfl rfl ?_ ?_
    ·exact⟨⟨rfl,rfl,rfl⟩,trivial⟩
    ·exact⟨⟨ex.symm,fun _=>rfl⟩,trivial⟩
   ·rw[hx]
    intro x hx
    rcases List.mem_append.1 hx with hx|hx
    ·exact hwd x hx
    ·rw[List.mem_singleton.1 hx];omega
   ·rw[hx,ZcJ,List.length_take,Nat.min_eq_left (Nat.le_of_lt ho),←hval]
    simp[wv]
 ·exact⟨Nat.zero_le _,Int.le_refl _,hp,by simp,by intro x hx;simp at hx,by simp[wv]⟩
 ·refine Zaq rfl rfl ?_ ?_
  ·exact⟨rfl,rfl,⟨rfl,w3 _ w1,w3 _ w1⟩,rfl,rfl,rfl,rfl,trivial⟩
  ·exact⟨⟨w4 _ w1,fun _=>rfl⟩,trivial⟩
end Go.Proofs.YtdnodlkdndfplaaGreatDoor
