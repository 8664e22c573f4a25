/-
 The reference: NatDiv, NatGcd.
-/
import Derived.Test.YtdnodlkdndfplaaGreatDoorR3
set_option linter.constructorNameAsVariable false
set_option linter.unusedSimpArgs false
set_option linter.unusedVariables false
namespace Go.Proofs.YtdnodlkdndfplaaGreatDoor
open Go.Am Go.Tx Dv Go.Lib
set_option maxRecDepth 100000
def ZBh (a b q:List UInt8) (i:Nat) (t:Nat×Nat):TM:=[(0, .v .s a),(1, .v .s b),(7, .v .s q),(8, .v .s (decDigits t.2)),(9, .v (.i .i64) (i:Int)),(10, .v (.i .u8) ((48+t.1:Nat):Int))]
set_option maxHeartbeats 8000000 in
theorem Zyh (a b q:List UInt8) (i R1:Nat) (hb:Cn b) (hb0:0<dec b) (hlb:b.length≤100000) (hR1:R1<10*dec b):
 LoopOK Tryz.prog Zan 0 ⟨112,0,53⟩ (Zbz Tryz.f112 8) (ZBh a b q i (0,R1)) []
 (fun e tm hp=>e= .exit 2∧ ∃ (X1 X2 X3 X4:SV),tm=(40,X1)::(39,X2)::(38,X3)::(37,X4)::ZBh a b q i (R1/dec b,R1 % dec b)∧hp=[]):=by
 refine Zat Zaa rfl (ZBh a b q i) (fun _=> []) (fun t=>R1=t.1*dec b+t.2) (fun t=>t.2) ?_ (0,R1) ?_ ZaU
 ·rintro⟨j,r⟩ hval
  simp only at hval
  have hrl:r<10^(b.length+1):=by
   have h1:=ZbJ hb.2.1
   rw[Nat.pow_succ]
   omega
  have hdl:=(Zbs (n:=r) (k:=b.length+1) (by omega)).2 hrl
  have hc:=ZpG (decDigits r) b (Za9 r) hb (by omega) (by omega)
  rw[Zao]at hc
  refine hc.mono ?_
  rintro _ rfl
  refine And.intro (fun h=> ?_) (fun h=> ?_)
  ·have h':(0:Int)≤((r:Int)-(dec b:Int)).sign:=of_decide_eq_true h
   have hge:dec b≤r:=by
    rcases Nat.lt_or_ge r (dec b)with h1|h1
    ·rw[Int.sign_eq_neg_one_of_neg (by omega)]at h'
     exact absurd h' (by decide)
    ·exact h1
   have hs:=Zpp (decDigits r) b (ZaO r) hb.2.1 (by omega) (by omega) (by rw[Zao];exact hge)
   rw[Zao]at hs
   refine hs.mono ?_
   rintro _ rfl
   have hj:j<9:=by
    rcases Nat.lt_or_ge j 9 with h1|h1
    ·exact h1
    ·have h2:9*dec b≤j*dec b:=Nat.mul_le_mul_right _ h1
     omega
   have eu:IntKind.u8.wrap (((48+j:Nat):Int)+1)=((48+(j+1):Nat):Int):=by rw[Zef (by omega) (by omega)];omega
   refine⟨(j+1,r-dec b), ?_,by show r-dec b<r;omega, ?_⟩
   ·show R1=(j+1)*dec b+(r-dec b)
    rw[Nat.add_mul,Nat.one_mul];omega
   ·refine Zal rfl rfl ?_ ?_
    ·exact⟨rfl,rfl,rfl,rfl,rfl,eu.symm,trivial⟩
    ·exact trivial
  ·have h': ¬ (0:Int)≤((r:Int)-(dec b:Int)).sign:=of_decide_eq_false h
   have hlt:r<dec b:=by
    rcases Nat.lt_or_ge r (dec b)with h1|h1
    ·exact h1
    ·exact absurd (Int.sign_nonneg_iff.2 (by omega)) h'
   have e1:R1/dec b=j:=by rw[hval,Nat.mul_comm,Nat.mul_add_div hb0,Nat.div_eq_of_lt hlt,Nat.add_zero]
   have e2:R1 % dec b=r:=by rw[hval,Nat.mul_comm,Nat.mul_add_mod,Nat.mod_eq_of_lt hlt]
   rw[e1,e2]
   exact⟨rfl,_,_,_,_,rfl,rfl⟩
 ·show R1=0*dec b+R1
  omega
set_option maxHeartbeats 8000000 in
theorem ZkY (a b:List UInt8) (ha:Dg a) (hb:Cn b) (hb0:0<dec b) (hla:a.length≤100000) (hlb:b.length≤100000):PureOK Tryz.prog Zan 112 [.v .s a, .v .s b] (fun V=>V= .tup [.v .s (decDigits (dec a/dec b)), .v .s (decDigits (dec a % dec b))]):=by
 refine Zac Zaa Tryz.func112 ?_
 have hb9:0<b.length:=List.length_pos_iff.2 hb.1
 obtain⟨fr,hfr⟩: ∃k,min a.length (b.length-1)=k:=⟨_,rfl⟩
 have hfa:fr≤a.length:=by omega
 have emin:(if IntKind.i64.wrap ((b.length:Int)-1)<(a.length:Int)then IntKind.i64.wrap ((b.length:Int)-1)else(a.length:Int))=(fr:Int):=by
  rw[Zah (by omega) (by omega)]
  split<;>omega
 have bsl:(0:Int)≤(if IntKind.i64.wrap ((b.length:Int)-1)<(a.length:Int)then IntKind.i64.wrap ((b.length:Int)-1)else(a.length:Int))∧(if IntKind.i64.wrap ((b.length:Int)-1)<(a.length:Int)then IntKind.i64.wrap ((b.length:Int)-1)else(a.length:Int))≤(a.length:Int):=by rw[emin];omega
 have eT:List.drop 0 (List.take (Int.toNat (if IntKind.i64.wrap ((b.length:Int)-1)<(a.length:Int)then IntKind.i64.wrap ((b.length:Int)-1)else(a.length:Int))) a)=a.take fr:=by rw[emin,Int.toNat_natCast,List.drop_zero]
 have hdt:Dg (a.take fr):=fun c hc=>ha c (List.mem_of_mem_take hc)
 have hS:=ZkX ([48]++List.drop 0 (List.take (Int.toNat (if IntKind.i64.wrap ((b.length:Int)-1)<(a.length:Int)then IntKind.i64.wrap ((b.length:Int)-1)else(a.length:Int))) a)) (by rw[eT];exact Dg.app (fun c hc=>by rw[List.mem_singleton.1 hc];decide) hdt) (by simp) (by rw[eT];simp;omega)
 rw[show dec ([48]++List.drop 0 (List.take (Int.toNat (if IntKind.i64.wrap ((b.length:Int)-1)<(a.length:Int)then IntKind.i64.wrap ((b.length:Int)-1)else(a.length:Int))) a))=dec (a.take fr)from by rw[eT];exact Zj8 hdt]at hS
 have hR0:dec (a.take fr)<dec b:=by
  have h1:=ZbJ hdt
  rw[List.length_take,Nat.min_eq_left hfa]at h1
  by_cases hb1:1<b.length
  ·exact Nat.lt_of_lt_of_le h1 (Nat.le_trans (Nat.pow_le_pow_right (by decide) (by omega)) (hb.ge hb1))
  ·have:fr=0:=by omega
   subst this
   exact hb0
 refine And.intro bsl ?_
 refine And.intro (by show 1+(List.drop 0 (List.take (Int.toNat (if IntKind.i64.wrap ((b.length:Int)-1)<(a.length:Int)then IntKind.i64.wrap ((b.length:Int)-1)else(a.length:Int))) a)).length≤_;rw[eT,List.length_take];omega) ?_
 refine hS.mono ?_
 rintro _ rfl
 refine Zat Zaa rfl (fun(t:Nat×List UInt8×Nat)=> [(0, .v .s a),(1, .v .s b),(7, .v .s t.2.1),(8, .v .s (decDigits t.2.2)),(9, .v (.i .i64) (t.1:Int))]) (fun _=> [])
  (fun t=>t.1≤a.length∧Dg t.2.1∧t.2.1≠ []∧t.2.1.length≤t.1+1∧t.2.2<dec b∧dec (a.take t.1)=dec t.2.1*dec b+t.2.2) (fun t=>a.length-t.1) ?_ (fr,[48],dec (a.take fr)) ?_ ?_
 ·rintro⟨i,q,R⟩ ⟨hi,hq,hqn,hql,hR,hval⟩
  simp only at hi hq hqn hql hR hval
  refine And.intro (fun h=> ?_) (fun h=> ?_)
  ·have hlt:i<a.length:=by have h':(i:Int)<(a.length:Int):=of_decide_eq_true h;omega
   obtain⟨c,hc⟩: ∃c,a[i]=c:=⟨_,rfl⟩
   have hc9:=ha _ (List.getElem_mem hlt)
   rw[hc]at hc9
   have ei:IntKind.i64.wrap ((i:Int)+1)=((i+1:Nat):Int):=Zah (by omega) (by omega)
   have eS:List.drop (i:Int).toNat (List.take (IntKind.i64.wrap ((i:Int)+1)).toNat a)=[c]:=by
    rw[ei,Int.toNat_natCast,Int.toNat_natCast,List.take_succ_eq_append_getElem hlt,hc]
    exact List.drop_left' (by rw[List.length_take];omega)
   have hRl:(decDigits R).length≤b.length:=(Zbs hb9).2 (Nat.lt_trans hR (ZbJ hb.2.1))
   have hS:=ZkX (decDigits R++List.drop (i:Int).toNat (List.take (IntKind.i64.wrap ((i:Int)+1)).toNat a)) (by rw[eS];exact Dg.app (ZaO R) (fun x hx=>by rw[List.mem_singleton.1 hx];exact hc9)) (by rw[eS];simp) (by rw[eS];simp;omega)
   rw[show dec (decDigits R++List.drop (i:Int).toNat (List.take (IntKind.i64.wrap ((i:Int)+1)).toNat a))=R*10+(c.toNat-48)from by rw[eS,Ze9,Zao]]at hS
   obtain⟨R1,hR1⟩: ∃n,R*10+(c.toNat-48)=n:=⟨_,rfl⟩
   rw[hR1]at hS
   have hR1b:R1<10*dec b:=by omega
   refine And.intro (by show 0≤(i:Int)∧(i:Int)≤IntKind.i64.wrap ((i:Int)+1)∧IntKind.i64.wrap ((i:Int)+1)≤(a.length:Int);rw[ei];omega) ?_
   refine And.intro (by show(decDigits R).length+(List.drop (i:Int).toNat (List.take (IntKind.i64.wrap ((i:Int)+1)).toNat a)).length≤_;rw[eS];show(decDigits R).length+1≤_;omega) ?_
   refine hS.mono ?_
   rintro _ rfl
   refine((Zyh a b q i R1 hb hb0 hlb hR1b).ent ?_).mono ?_
   ·refine Zal rfl rfl ?_ ?_
    ·exact⟨rfl,rfl,rfl,rfl,rfl,rfl,trivial⟩
    ·exact trivial
   rintro _ _ _ ⟨rfl,X1,X2,X3,X4,rfl,rfl⟩
   have hq9:R1/dec b<10:=Nat.div_lt_of_lt_mul (by rw[Nat.mul_comm];exact hR1b)
   obtain⟨d,hd⟩: ∃d,R1/dec b=d:=⟨_,rfl⟩
   have hdm:=Nat.div_add_mod R1 (dec b)
   rw[hd]at hq9 hdm
   have eq1:q++ [UInt8.ofNat (48+d)]=q++ [UInt8.ofNat ((48+R1/dec b:Nat):Int).toNat]:=by rw[hd,Int.toNat_natCast]
   refine And.intro (by show(0:Int)≤((48+R1/dec b:Nat):Int)∧((48+R1/dec b:Nat):Int)<128;rw[hd];omega) ?_
   refine And.intro (by show q.length+1≤9223372036854775807;omega) ?_
   refine⟨(i+1,q++ [UInt8.ofNat (48+d)],R1 % dec b),⟨hlt, ?_,by simp, ?_,Nat.mod_lt _ hb0, ?_⟩,by show a.length-(i+1)<a.length-i;omega, ?_⟩
   ·exact hq.app (fun x hx=>by rw[List.mem_singleton.1 hx,Zdc hq9];omega)
   ·show(q++ [_]).length≤i+1+1
    simp
    omega
   ·show dec (a.take (i+1))=dec (q++ [UInt8.ofNat (48+d)])*dec b+R1 % dec b
    rw[List.take_succ_eq_append_getElem hlt,hc,Ze9,Ze9,Zdc hq9,hval,Nat.add_sub_cancel_left]
    have e3:(dec q*10+d)*dec b=dec q*dec b*10+dec b*d:=by rw[Nat.add_mul,Nat.mul_comm d,Nat.mul_assoc,Nat.mul_comm 10,←Nat.mul_assoc]
    rw[e3,Nat.add_mul]
    omega
   ·refine Zal rfl rfl ?_ ?_
    ·exact⟨rfl,rfl,eq1,rfl,ei.symm,trivial⟩
    ·exact trivial
  ·have he:i=a.length:=by have h': ¬ (i:Int)<(a.length:Int):=of_decide_eq_false h;omega
   subst he
   rw[List.take_length]at hval
   refine(ZkX q hq hqn (by omega)).mono ?_
   rintro _ rfl
   have e1:dec a/dec b=dec q:=by
    rw[hval,Nat.mul_comm,Nat.mul_add_div hb0,Nat.div_eq_of_lt hR,Nat.add_zero]
   have e2:dec a % dec b=R:=by
    rw[hval,Nat.mul_comm,Nat.mul_add_mod,Nat.mod_eq_of_lt hR]
   show SV.tup [.v .s (decDigits (dec q)), .v .s (decDigits R)]=_
   rw[e1,e2]
 ·refine⟨hfa,fun c hc=>by rw[List.mem_singleton.1 hc];decide,by simp,by show 1≤fr+1;omega,hR0, ?_⟩
  show dec (a.take fr)=dec [48]*dec b+dec (a.take fr)
  rw[ZiC]
  simp
 ·refine Zal rfl rfl ?_ ?_
  ·exact⟨rfl,rfl,rfl,rfl,emin.symm,trivial⟩
  ·exact trivial
theorem Zm0 (n:Nat):(decDigits n==[48])=decide (n=0):=by
 by_cases h:n=0
 ·subst h
  rw[decDigits_one (by decide)]
  rfl
 ·rw[decide_eq_false h]
  cases hb:(decDigits n==[48])with
  |false=>rfl
  |true=>
   have h1:decDigits n=[48]:=by simpa using hb
   have h2:=Zao n
   rw[h1]at h2
   exact absurd h2.symm h
set_option maxHeartbeats 8000000 in
theorem Zpo (a b:List UInt8) (ha:Cn a) (hb:Cn b) (hla:a.length≤90000) (hlb:b.length≤90000):PureOK Tryz.prog Zan 54 [.v .s a, .v .s b] (fun V=>V= .v .s (decDigits (Nat.gcd (dec a) (dec b)))):=by
 refine Zac Zaa Tryz.func54 ?_
 obtain⟨L,hL0⟩: ∃L:Nat,90000=L:=⟨_,rfl⟩
 rw[hL0]at hla hlb
 have hL1:1≤L:=by omega
 have hxa:dec a<10^L:=Nat.lt_of_lt_of_le (ZbJ ha.2.1) (Nat.pow_le_pow_right (by decide) hla)
 have hxb:dec b<10^L:=Nat.lt_of_lt_of_le (ZbJ hb.2.1) (Nat.pow_le_pow_right (by decide) hlb)
 have hL: ∀ {n:Nat},n<10^L→(decDigits n).length≤L:=fun h=>(Zbs hL1).2 h
 generalize(10:Nat)^L=P at*
 refine Zat Zaa rfl (fun(t:Nat×Nat)=> [(0, .v .s (decDigits t.1)),(1, .v .s (decDigits t.2))]) (fun _=> [])
  (fun t=>t.1<P∧t.2<P∧Nat.gcd t.1 t.2=Nat.gcd (dec a) (dec b)) (fun t=>t.2) ?_ (dec a,dec b) ?_ ?_
 ·rintro⟨x,y⟩ ⟨hx,hy,hg⟩
  simp only at hx hy hg
  have hz:=Zm0 y
  refine And.intro (fun h=> ?_) (fun h=> ?_)
  ·have h':(!(decDigits y==[48]))=true:=h
   have hy0:0<y:=by
    rcases Nat.eq_zero_or_pos y with h0|h0
    ·rw[hz,decide_eq_true h0]at h'
     cases h'
    ·exact h0
   have hD:=ZkY (decDigits x) (decDigits y) (ZaO x) (Za9 y) (by rw[Zao];exact hy0) (by have:=hL hx;omega) (by have:=hL hy;omega)
   rw[Zao,Zao]at hD
   refine hD.mono ?_
   rintro _ rfl
   have hr:x % y<y:=Nat.mod_lt _ hy0
   refine⟨(y,x % y),⟨hy,by show x % y<P;omega, ?_⟩,hr, ?_⟩
   ·show Nat.gcd y (x % y)=_
    rw[←hg,Nat.gcd_comm y (x % y),←Nat.gcd_rec y x]
    exact Nat.gcd_comm y x
   ·refine Zal rfl rfl ?_ ?_
    ·exact⟨rfl,rfl,trivial⟩
    ·exact trivial
  ·have h':(!(decDigits y==[48]))=false:=h
   have hy0:y=0:=by
    rcases Nat.eq_zero_or_pos y with h0|h0
    ·exact h0
    ·rw[hz,decide_eq_false (by omega)]at h'
     cases h'
   subst hy0
   rw[Nat.gcd_zero_right]at hg
   show SV.v .s (decDigits x)=_
   rw[hg]
 ·exact⟨hxa,hxb,rfl⟩
 ·refine Zal rfl rfl ?_ ?_
  ·exact⟨ha.eq,hb.eq,trivial⟩
  ·exact trivial
end Go.Proofs.YtdnodlkdndfplaaGreatDoor
/-
 The reference: parts, Canon, RatAdd, RatSub, RatNeg, RatMul, RatDiv, RatSign, RatCmp.
-/
namespace Go.Proofs.YtdnodlkdndfplaaGreatDoor
open Go.Am Go.Tx Dv Go.Lib
set_option maxRecDepth 100000
def dl (n:Nat):Nat:=(decDigits n).length
theorem ZtT (n:Nat):1≤dl n:=List.length_pos_iff.2 (ZeF n)
theorem ZlP (n:Nat):n<10^dl n:=(Zbs (ZtT n)).1 (Nat.le_refl _)
theorem ZoD {n k:Nat} (hk:1≤k) (h:n<10^k):dl n≤k:=(Zbs hk).2 h
theorem Zdn (m n:Nat):dl (m*n)≤dl m+dl n:=by
 refine ZoD (by have:=ZtT m;omega) ?_
 rw[Nat.pow_add]
 exact Nat.mul_lt_mul'' (ZlP m) (ZlP n)
theorem Zw0 (m n:Nat):dl (m+n)≤max (dl m) (dl n)+1:=by
 refine ZoD (by omega) ?_
 rw[Nat.pow_succ]
 have h1:=Nat.lt_of_lt_of_le (ZlP m) (Nat.pow_le_pow_right (n:=10) (by decide) (Nat.le_max_left (dl m) (dl n)))
 have h2:=Nat.lt_of_lt_of_le (ZlP n) (Nat.pow_le_pow_right (n:=10) (by decide) (Nat.le_max_right (dl m) (dl n)))
 omega
theorem Zey {m n:Nat} (h:m≤n):dl m≤dl n:=ZoD (ZtT n) (Nat.lt_of_le_of_lt h (ZlP n))
theorem ZAd:dl 1=1:=by rw[dl,decDigits_one (by decide)];rfl
def dz (q:Rat) (k:Nat):Prop:=dl q.num.natAbs≤k∧dl q.den≤k
theorem Zif {n:Int} {d k:Nat} (hd:0<d) (h1:dl n.natAbs≤k) (h2:dl d≤k):dz (Rat.divInt n d) k:=by
 obtain⟨e1,e2⟩:=ZdK (n:=n) (d:=(d:Int)) (by omega)
 constructor
 ·rw[e1]
  exact Nat.le_trans (Zey (Int.natAbs_ediv_le_natAbs _ _)) h1
 ·have h3:(Rat.divInt n d).den≤d:=by
   have:=Int.ediv_le_self (a:=(d:Int)) (Int.gcd n d:Int) (by omega)
   omega
  exact Nat.le_trans (Zey h3) h2
theorem Zpu {p q:Rat} {k m:Nat} (hp:dz p k) (hq:dz q m):dz (p+q) (k+m+1):=by
 rw[←ZkT,←Int.natCast_mul]
 obtain⟨p1,p2⟩:=hp
 obtain⟨q1,q2⟩:=hq
 have h1:=Zdn p.num.natAbs q.den
 have h2:=Zdn q.num.natAbs p.den
 have h3:=Zdn p.den q.den
 have h4:=Zw0 (p.num.natAbs*q.den) (q.num.natAbs*p.den)
 refine Zif (Nat.mul_pos p.den_pos q.den_pos) ?_ (by omega)
 refine Nat.le_trans (Zey (Int.natAbs_add_le _ _)) ?_
 rw[Int.natAbs_mul,Int.natAbs_mul,Int.natAbs_natCast,Int.natAbs_natCast]
 omega
theorem Zj3 {p q:Rat} {k m:Nat} (hp:dz p k) (hq:dz q m):dz (p*q) (k+m):=by
 rw[←Zh9,←Int.natCast_mul]
 obtain⟨p1,p2⟩:=hp
 obtain⟨q1,q2⟩:=hq
 have h1:=Zdn p.num.natAbs q.num.natAbs
 have h3:=Zdn p.den q.den
 refine Zif (Nat.mul_pos p.den_pos q.den_pos) ?_ (by omega)
 rw[Int.natAbs_mul]
 omega
theorem Zpi {p:Rat} {k:Nat} (hp:dz p k):dz (-p) k:=by
 obtain⟨p1,p2⟩:=hp
 refine⟨?_,p2⟩
 show dl (-p.num).natAbs≤k
 rw[Int.natAbs_neg]
 exact p1
theorem ZbM {p:Rat} {k m:Nat} (h:k≤m) (hp:dz p k):dz p m:=⟨Nat.le_trans hp.1 h,Nat.le_trans hp.2 h⟩
theorem ZAA {p:Rat} {k:Nat} (h:k≤2000) (hp:dz p k):ZjJ p=true:=Ze0.2 ⟨Nat.le_trans hp.1 h,Nat.le_trans hp.2 h⟩
theorem Ztg {p:Rat} {k:Nat} (h:(ZaX p).length≤k) (hk:1≤k):dz p k:=by
 have hm: ∀ (m:Bool) (s:List UInt8),s.length≤(mns m s).length:=fun m s=>by cases m<;>simp[mns]
 have h1:=hm (decide (p.num<0)) (decDigits p.num.natAbs++ZbB p.den)
 rw[List.length_append]at h1
 have h2:(ZaX p).length=(mns (decide (p.num<0)) (decDigits p.num.natAbs++ZbB p.den)).length:=rfl
 refine⟨by show(decDigits p.num.natAbs).length≤k;omega, ?_⟩
 cases hd:decide (p.den=1)with
 |true=>rw[of_decide_eq_true hd,ZAd];exact hk
 |false=>
  have h3:(ZbB p.den).length=dl p.den+1:=by
   rw[ZbB,hd]
   rfl
  omega
theorem ZCu (c:UInt8):decide ((c.toNat:Int)=45)=(some c==some (45:UInt8)):=by
 rw[Bool.eq_iff_iff,decide_eq_true_eq,beq_iff_eq,Option.some.injEq]
 constructor
 ·intro h
  exact UInt8.toNat_inj.1 (by show c.toNat=45;omega)
 ·rintro rfl;rfl
theorem ZCg (c:UInt8):decide ((c.toNat:Int)=47)=Nat.beq c.toNat (47:UInt8).toNat:=by
 rw[Bool.eq_iff_iff,decide_eq_true_eq,Nat.beq_eq]
 show _↔c.toNat=47
 omega
theorem Zqs (m:Bool) {x y x' y':List UInt8} (h1:x=x') (h2:y=y'):SV.tup [.v .b m, .v .s x, .v .s y]=SV.tup [.v .b m, .v .s x', .v .s y']:=by rw[h1,h2]
set_option maxHeartbeats 8000000 in
theorem Zfs (q:Rat) {k:Nat} (hk:k≤1000000) (hz:dz q k):PureOK Tryz.prog Zan 57 [.v .s (ZaX q)] (fun V=>V= .tup [.v .b (decide (q.num<0)), .v .s (decDigits q.num.natAbs), .v .s (decDigits q.den)]):=by
 refine Zac Zaa Tryz.func57 ?_
 obtain⟨z1,z2⟩:=hz
 have hS:=Zgt q
 have hN:=ZiB q
 have hcut:=Zgq q.num.natAbs q.den
 have hSl:(decDigits q.num.natAbs++ZbB q.den).length≤3000000:=by
  have h1:(decDigits q.num.natAbs).length≤k:=z1
  have h2:(decDigits q.den).length≤k:=z2
  have h3:(ZbB q.den).length≤k+1:=by
   unfold ZbB
   cases decide (q.den=1)with
   |true=>simp
   |false=>simp only[List.length_cons];omega
  rw[List.length_append]
  omega
 obtain⟨S,eS⟩: ∃S,decDigits q.num.natAbs++ZbB q.den=S:=⟨_,rfl⟩
 rw[eS]at hS hcut hSl
 obtain⟨a,ea⟩: ∃a,ZaX q=a:=⟨_,rfl⟩
 rw[ea]at hS hN⊢
 have hane:a≠ []:=by
  rintro rfl
  have h0:=Zjg q.num.natAbs q.den
  rw[eS,←hS]at h0
  have h1:Zf0 []=[]:=rfl
  have:decDigits q.num.natAbs++ZbB q.den=[]:=by rw[eS,←hS,h1]
  exact ZeF _ (List.append_eq_nil_iff.1 this).1
 obtain⟨c,l,hcl⟩: ∃c l,a=c::l:=List.exists_cons_of_ne_nil hane
 have hc0:a[(0:Int).toNat]? =some c:=by rw[hcl];rfl
 have hcm:decide ((c.toNat:Int)=45)=decide (q.num<0):=by
  rw[ZCu,←hN,hcl]
  rfl
 obtain⟨m,hm⟩: ∃m,decide (q.num<0)=m:=⟨_,rfl⟩
 rw[hm]at hcm hN⊢
 refine⟨c,Int.le_refl 0,hc0, ?_⟩
 refine And.intro (fun h=> ?_) (fun h=> ?_)
 have h':m=true:=hcm.symm.trans h
 refine And.intro (show 0≤(1:Int)∧(1:Int)≤(a.length:Int)from⟨by decide,by rw[hcl];simp only[List.length_cons];omega⟩) ?_
 have eA:(a.take a.length).drop (1:Int).toNat=S:=by
  rw[List.take_length,←hS,Zf0,hN,h']
  rfl
 rotate_left 1
 have h':m=false:=hcm.symm.trans h
 have eA:a=S:=by
  rw[←hS,Zf0,hN,h']
 all_goals
  refine Zat Zaa rfl (fun(i:Nat)=> [(5, .v .s S),(6, .v .b m),(16, .v (.i .i64) (S.length:Int)),(17, .v (.i .i64) (i:Int))]) (fun _=> [])
   (fun i=>i≤S.length∧ZbN (S.drop i) 47 i=ZbN S 47 0) (fun i=>S.length-i) ?_ 0 ?_ ?_
  ·rintro i ⟨hi,he⟩
   refine And.intro (fun h=> ?_) (fun h=> ?_)
   ·have hlt:i<S.length:=by have h':(i:Int)<(S.length:Int):=of_decide_eq_true h;omega
    obtain⟨x,hx⟩: ∃x,S[i]=x:=⟨_,rfl⟩
    have gx:S[(i:Int).toNat]? =some x:=by rw[Int.toNat_natCast,List.getElem?_eq_getElem hlt,hx]
    rw[List.drop_eq_getElem_cons hlt,hx,ZbN,←ZCg]at he
    refine⟨x,Int.natCast_nonneg i,gx, ?_⟩
    have wi:IntKind.i64.wrap ((i:Int)+1)=((i+1:Nat):Int):=Zah (by omega) (by omega)
    refine And.intro (fun h2=> ?_) (fun h2=> ?_)
    ·have h2':decide ((x.toNat:Int)=47)=true:=h2
     rw[h2']at he
     simp only at he
     have hC:=ZgK he.symm
     rw[hC]at hcut
     refine And.intro (show 0≤(i:Int)∧(i:Int)≤(S.length:Int)by omega) ?_
     refine And.intro (show 0≤IntKind.i64.wrap ((i:Int)+1)∧IntKind.i64.wrap ((i:Int)+1)≤(S.length:Int)by rw[wi];omega) ?_
     cases hd:decide (q.den=1)with
     |true=>rw[hd]at hcut;simp at hcut
     |false=>
      rw[hd]at hcut
      simp only[Prod.mk.injEq]at hcut
      have e1:List.drop 0 (S.take (i:Int).toNat)=decDigits q.num.natAbs:=hcut.1
      have e2:List.drop (IntKind.i64.wrap ((i:Int)+1)).toNat (S.take S.length)=decDigits q.den:=by
       rw[wi,Int.toNat_natCast,List.take_length]
       exact hcut.2.1
      exact Zqs m e1 e2
    ·have h2':decide ((x.toNat:Int)=47)=false:=h2
     rw[h2']at he
     refine⟨i+1,⟨hlt,he⟩,by show S.length-(i+1)<S.length-i;omega, ?_⟩
     refine Zal rfl rfl ?_ ?_
     ·exact⟨rfl,rfl,rfl,wi.symm,trivial⟩
     ·exact trivial
   ·have hi2:i=S.length:=by have h': ¬ (i:Int)<(S.length:Int):=of_decide_eq_false h;omega
    rw[List.drop_of_length_le (by omega)]at he
    have hC:=ZfY (s:=S) he.symm
    rw[hC]at hcut
    cases hd:decide (q.den=1)with
    |false=>rw[hd]at hcut;simp at hcut
    |true=>
     rw[hd]at hcut
     simp only[Prod.mk.injEq]at hcut
     have e1:S=decDigits q.num.natAbs:=hcut.1
     have e2:[49]=decDigits q.den:=by
      rw[of_decide_eq_true hd,decDigits_one (by decide)]
      rfl
     exact Zqs m e1 e2
  ·exact⟨Nat.zero_le _,rfl⟩
  ·refine Zal rfl rfl ?_ ?_
   ·exact⟨eA.symm,hcm.symm,by rw[←eA];rfl,rfl,trivial⟩
   ·exact trivial
end Go.Proofs.YtdnodlkdndfplaaGreatDoor
