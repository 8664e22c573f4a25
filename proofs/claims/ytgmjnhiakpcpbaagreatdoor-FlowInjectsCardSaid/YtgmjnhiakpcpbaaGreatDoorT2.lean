import Derived.Test.YtgmjnhiakpcpbaaGreatDoorHints
set_option linter.constructorNameAsVariable false
set_option linter.unusedSimpArgs false
set_option linter.unusedVariables false
namespace Go.Proofs.YtgmjnhiakpcpbaaGreatDoor
open Go.Am Go.Tx Dv
set_option maxRecDepth 100000
theorem Zq2 {r x:Int} (h0:0≤r) (h1:r<4294967296) (h2:0≤x) (h3:x<4294967296):
 IntKind.u64.wrap ((BitVec.ofInt IntKind.u64.bits (IntKind.u64.wrap (r*2^min (Int.toNat 32) IntKind.u64.bits))|||BitVec.ofInt IntKind.u64.bits (IntKind.u64.wrap x)).toNat:Int)=r*4294967296+x:=by
 obtain⟨n,rfl⟩: ∃n:Nat,r=n:=⟨r.toNat,by omega⟩
 obtain⟨m,rfl⟩: ∃m:Nat,x=m:=⟨x.toNat,by omega⟩
 have e1:IntKind.u64.wrap ((n:Int)*2^min (Int.toNat 32) IntKind.u64.bits)=((n*4294967296:Nat):Int):=by
  show IntKind.u64.wrap ((n:Int)*4294967296)=_
  rw[ZcH (by omega) (by omega)];omega
 have e2:IntKind.u64.wrap (m:Int)=(m:Int):=ZcH (by omega) (by omega)
 rw[e1,e2]
 show IntKind.u64.wrap ((BitVec.ofInt 64 ((n*4294967296:Nat):Int)|||BitVec.ofInt 64 (m:Int)).toNat:Int)=_
 rw[BitVec.ofInt_natCast,BitVec.ofInt_natCast,BitVec.toNat_or,BitVec.toNat_ofNat,BitVec.toNat_ofNat,Nat.mod_eq_of_lt (by omega),Nat.mod_eq_of_lt (by omega)]
 have e3:n*4294967296|||m=n*4294967296+m:=by
  have:=Nat.shiftLeft_add_eq_or_of_lt (a:=n) (b:=m) (i:=32) (by omega)
  rw[Nat.shiftLeft_eq]at this
  exact this.symm
 rw[e3,ZcH (by omega) (by omega)];omega
set_option maxHeartbeats 4000000 in
theorem Znz (p:FuncId→Option (List PV→Option PV)) (hp:p 162=none) (a:List Int) (d:Int) (ha:Wd a) (hd0:0<d) (hd1:d<4294967296) (hl:a.length≤1000000):PureOK Tryz.prog (Zm8 p) 162 [Zkb a, .v (.i .u32) d] (fun V=> ∃q,V= .tup [Zkb q, .v (.i .u32) (wv a % d)]∧Wd q∧q.length=a.length∧wv q=wv a/d):=by
 refine ZhK (fn:=Tryz.f162) (code:=Zca Tryz.f162) Zaw (by kernel_rfl) hp Tryz.func162 (by kernel_rfl) (Nat.le_of_ble_eq_true (by kernel_rfl)) ?_
 have w1:IntKind.i64.wrap ((a.length:Int)-1)=(a.length:Int)-1:=Zdf (by omega) (by omega)
 have w2:0≤(a.length:Int)∧(a.length:Int)≤a.length∧(4:Int)*a.length≤281474976710656∧(a.length:Int)<9223372036854775808:=by omega
 have w3:a.length=(a.length:Int).toNat:=(Int.toNat_natCast _).symm
 have w4:List.replicate a.length (0:Int)=List.replicate (a.length:Int).toNat 0:=by rw[←w3]
 refine And.intro w2 ?_
 refine ZaH Zaw rfl (fun(s:Nat×Int×List Int)=> [(0,Zkb a),(1, .v (.i .u32) d),(6, .ref 0 0 a.length none),(7, .v (.i .u64) s.2.1),(8, .v (.i .i64) ((s.1:Int)-1))]) (fun s=> [.row (.i .u32) s.2.2 true])
  (fun s=>s.1≤a.length∧0≤s.2.1∧s.2.1<d∧s.2.2.length=a.length∧Wd (s.2.2.drop s.1)∧wv (a.drop s.1)=d*wv (s.2.2.drop s.1)+s.2.1) (fun s=>s.1) ?_ (a.length,0,List.replicate a.length 0) ?_ ?_
 ·rintro⟨k,r,out⟩ ⟨hk,hr0,hr1,hlen,hwd,hval⟩
  simp only at hk hr0 hr1 hlen hwd hval
  refine And.intro (fun h=> ?_) (fun h=> ?_)
  ·have hk1:1≤k:=by have:=of_decide_eq_true h;simp only at this;omega
   obtain⟨m,rfl⟩: ∃m,k=m+1:=⟨k-1,by omega⟩
   have hm:m<a.length:=by omega
   have ix:(((m+1:Nat):Int)-1).toNat=m:=by omega
   have ix0:(0:Int)≤((m+1:Nat):Int)-1:=by omega
   have hg:a[(((m+1:Nat):Int)-1).toNat]? =some a[m]:=by rw[ix];exact List.getElem?_eq_getElem hm
   refine⟨by decide,a[m],ix0,hg, ?_⟩
   refine And.intro ?_ ?_
   ·show IntKind.u64.wrap d≠0
    rw[ZcH (by omega) (by omega)];omega
   refine And.intro ⟨ix0,by show(((m+1:Nat):Int)-1)<(a.length:Int);omega⟩ ?_
   refine Exists.intro (out[m]) (And.intro (by show out[0+(((m+1:Nat):Int)-1).toNat]? =_;rw[ix,Nat.zero_add];exact List.getElem?_eq_getElem (by omega)) ?_)
   refine And.intro ?_ ?_
   ·show IntKind.u64.wrap d≠0
    rw[ZcH (by omega) (by omega)];omega
   have ham:=ha _ (List.getElem_mem hm)
   have hor:=Zq2 hr0 (show r<4294967296 by omega) ham.1 ham.2
   have hdw:IntKind.u64.wrap d=d:=ZcH (by omega) (by omega)
   have hX0:0≤r*4294967296+a[m]:=by omega
   have hX1:r*4294967296+a[m]<4294967296*d:=by omega
   have hq0:0≤(r*4294967296+a[m])/d:=Int.ediv_nonneg hX0 (by omega)
   have hq1:(r*4294967296+a[m])/d<4294967296:=Int.ediv_lt_of_lt_mul hd0 hX1
   have em:(r*4294967296+a[m]) % d=(IntKind.u64.wrap ((BitVec.ofInt IntKind.u64.bits (IntKind.u64.wrap (r*2^min (Int.toNat 32) IntKind.u64.bits))|||BitVec.ofInt IntKind.u64.bits (IntKind.u64.wrap a[m])).toNat:Int)).tmod (IntKind.u64.wrap d):=by
    rw[hor,hdw,Int.tmod_eq_emod_of_nonneg hX0]
   have eq':(r*4294967296+a[m])/d=IntKind.u32.wrap (IntKind.u64.wrap ((IntKind.u64.wrap ((BitVec.ofInt IntKind.u64.bits (IntKind.u64.wrap (r*2^min (Int.toNat 32) IntKind.u64.bits))|||BitVec.ofInt IntKind.u64.bits (IntKind.u64.wrap a[m])).toNat:Int)).tdiv (IntKind.u64.wrap d))):=by
    rw[hor,hdw,Int.tdiv_eq_ediv_of_nonneg hX0,ZcH hq0 (by omega),Zmq,Int.emod_eq_of_lt hq0 hq1]
   have er:out.set m ((r*4294967296+a[m])/d)=out.set (0+(((m+1:Nat):Int)-1).toNat) (IntKind.u32.wrap (IntKind.u64.wrap ((IntKind.u64.wrap ((BitVec.ofInt IntKind.u64.bits (IntKind.u64.wrap (r*2^min (Int.toNat 32) IntKind.u64.bits))|||BitVec.ofInt IntKind.u64.bits (IntKind.u64.wrap a[m])).toNat:Int)).tdiv (IntKind.u64.wrap d)))):=by
    rw[←eq',ix,Nat.zero_add]
   have wi:(m:Int)-1=IntKind.i64.wrap (((m+1:Nat):Int)-1-1):=by rw[Zdf (by omega) (by omega)];omega
   have hds: ∀x:Int,(out.set m x).drop m=x::out.drop (m+1):=fun x=>by
    rw[List.drop_eq_getElem_cons (by rw[List.length_set];omega),List.getElem_set_self,List.drop_set_of_lt (by omega)]
   have hda:a.drop m=a[m]::a.drop (m+1):=List.drop_eq_getElem_cons hm
   refine⟨(m,(r*4294967296+a[m]) % d,out.set m ((r*4294967296+a[m])/d)),⟨?_, ?_, ?_, ?_, ?_, ?_⟩, ?_, ?_⟩
   ·show m≤a.length;omega
   ·show 0≤(r*4294967296+a[m]) % d;exact Int.emod_nonneg _ (by omega)
   ·show(r*4294967296+a[m]) % d<d;exact Int.emod_lt_of_pos _ hd0
   ·show(out.set _ _).length=_;simpa using hlen
   ·show Wd ((out.set m _).drop m)
    rw[hds]
    intro x hx
    rcases List.mem_cons.1 hx with rfl|hx
    ·exact⟨hq0,hq1⟩
    ·exact hwd x hx
   ·show wv (a.drop m)=d*wv ((out.set m _).drop m)+(r*4294967296+a[m]) % d
    rw[hds,hda,wv,wv,hval]
    have e:=Int.emod_add_mul_ediv (r*4294967296+a[m]) d
    generalize wv (out.drop (m+1))=v
    have e2:d*(4294967296*v)=4294967296*(d*v):=by rw[←Int.mul_assoc,Int.mul_comm d,Int.mul_assoc]
    rw[Int.mul_add d,e2]
    generalize d*v=t
    generalize d*((r*4294967296+a[m])/d)=z at e⊢
    omega
   ·show m<m+1;omega
   ·refine Zgx rfl rfl ?_ ?_
    ·exact⟨rfl,rfl,⟨rfl,rfl,rfl⟩,em,wi,trivial⟩
    ·exact⟨⟨er,fun _=>rfl⟩,trivial⟩
  ·have hk0:k=0:=by have:=of_decide_eq_false h;simp only at this;omega
   subst hk0
   refine And.intro (by show 0+a.length≤out.length;omega) ?_
   rw[List.drop_zero]at hwd
   rw[List.drop_zero,List.drop_zero]at hval
   have hs:sub out 0 a.length=out:=by rw[sub,List.drop_zero,List.take_of_length_le (by omega)]
   have e1:wv a % d=r:=by rw[hval,Int.add_comm,Int.add_mul_emod_self_left,Int.emod_eq_of_lt hr0 hr1]
   have e2:wv a/d=wv out:=by rw[hval,Int.add_comm,Int.add_mul_ediv_left _ _ (by omega),Int.ediv_eq_zero_of_lt hr0 hr1,Int.zero_add]
   have e3:IntKind.u32.wrap r=r:=by rw[Zmq,Int.emod_eq_of_lt hr0 (by omega)]
   have e4:SV.tup [Zkb (sub out 0 a.length), .v (.i .u32) (IntKind.u32.wrap r)]=SV.tup [Zkb out, .v (.i .u32) (wv a % d)]:=by rw[hs,e1,e3]
   exact⟨out,e4,hwd,hlen,e2.symm⟩
 ·exact⟨Nat.le_refl _,Int.le_refl _,hd0,by show(List.replicate _ _).length=_;simp,by intro x hx;simp at hx,by simp[wv]⟩
 ·refine Zgx rfl rfl ?_ ?_
  ·exact⟨rfl,rfl,⟨rfl,w3,w3⟩,rfl,w1.symm,trivial⟩
  ·exact⟨⟨w4,fun _=>rfl⟩,trivial⟩
end Go.Proofs.YtgmjnhiakpcpbaaGreatDoor
