/-
 The reference: NatDiv, NatGcd.
-/
import Derived.Test.YtdnodlkdndfplaaGreatDoorR2
set_option linter.constructorNameAsVariable false
set_option linter.unusedSimpArgs false
set_option linter.unusedVariables false
namespace Go.Proofs.YtdnodlkdndfplaaGreatDoor
open Go.Am Go.Tx Dv Go.Lib
set_option maxRecDepth 100000
def ZtX (a b q:List UInt8) (i:Nat) (t:Nat×Nat):TM:=[(0, .v .s a),(1, .v .s b),(7, .v .s q),(8, .v .s (decDigits t.2)),(9, .v (.i .i64) (i:Int)),(10, .v (.i .u8) ((48+t.1:Nat):Int))]
set_option maxHeartbeats 8000000 in
theorem Zr2 (a b q:List UInt8) (i R1:Nat) (hb:Cn b) (hb0:0<dec b) (hlb:b.length≤100000) (hR1:R1<10*dec b):
 LoopOK Tryz.prog Zau 0 ⟨112,0,53⟩ (ZeH Tryz.f112 8) (ZtX a b q i (0,R1)) []
 (fun e tm hp=>e= .exit 2∧ ∃ (X1 X2 X3 X4:SV),tm=(40,X1)::(39,X2)::(38,X3)::(37,X4)::ZtX a b q i (R1/dec b,R1 % dec b)∧hp=[]):=by
 refine ZaC Zao rfl (ZtX a b q i) (fun _=> []) (fun t=>R1=t.1*dec b+t.2) (fun t=>t.2) ?_ (0,R1) ?_ Zcv
 ·rintro⟨j,r⟩ hval
  simp only at hval
  have hrl:r<10^(b.length+1):=by
   have h1:=ZbK hb.2.1
   rw[Nat.pow_succ]
   omega
  have hdl:=(Zbm (n:=r) (k:=b.length+1) (by omega)).2 hrl
  have hc:=ZpM (decDigits r) b (Zcb r) hb (by omega) (by omega)
  rw[ZaI]at hc
  refine hc.mono ?_
  rintro _ rfl
  refine And.intro (fun h=> ?_) (fun h=> ?_)
  ·have h':(0:Int)≤((r:Int)-(dec b:Int)).sign:=of_decide_eq_true h
   have hge:dec b≤r:=by
    rcases Nat.lt_or_ge r (dec b)with h1|h1
    ·rw[Int.sign_eq_neg_one_of_neg (by omega)]at h'
     exact absurd h' (by decide)
    ·exact h1
   have hs:=ZpN (decDigits r) b (ZcK r) hb.2.1 (by omega) (by omega) (by rw[ZaI];exact hge)
   rw[ZaI]at hs
   refine hs.mono ?_
   rintro _ rfl
   have hj:j<9:=by
    rcases Nat.lt_or_ge j 9 with h1|h1
    ·exact h1
    ·have h2:9*dec b≤j*dec b:=Nat.mul_le_mul_right _ h1
     omega
   have eu:IntKind.u8.wrap (((48+j:Nat):Int)+1)=((48+(j+1):Nat):Int):=by rw[ZcU (by omega) (by omega)];omega
   refine⟨(j+1,r-dec b), ?_,by show r-dec b<r;omega, ?_⟩
   ·show R1=(j+1)*dec b+(r-dec b)
    rw[Nat.add_mul,Nat.one_mul];omega
   ·refine Zaq rfl rfl ?_ ?_
    ·exact⟨rfl,rfl,rfl,rfl,rfl,eu.symm,trivial⟩
    ·exact trivial
  ·have h': ¬ (0:Int)≤((r:Int)-(dec b:Int)).sign:=of_decide_eq_false h
   have hlt:r<dec b:=by
    rcases Nat.lt_or_ge r (dec b)with h1|h1
    ·exact h1
    ·exact absurd (Int.sign_nonneg_iff.2 (by omega)) h'
   have e1:R1/dec b=j:=by rw[hval,Nat.mul_comm,Nat.mul_add_div hb0,Nat.div_eq_of_lt hlt,Nat.add_zero]
   have e2:R1 % dec b=r:=by rw[hval,Nat.mul_comm,Nat.mul_add_mod,Nat.mod_eq_of_lt hlt]
   rw[e1,e2]
   exact⟨rfl,_,_,_,_,rfl,rfl⟩
 ·show R1=0*dec b+R1
  omega
set_option maxHeartbeats 8000000 in
theorem Zp5 (a b:List UInt8) (ha:Dg a) (hb:Cn b) (hb0:0<dec b) (hla:a.length≤100000) (hlb:b.length≤100000):PureOK Tryz.prog Zau 112 [.v .s a, .v .s b] (fun V=>V= .tup [.v .s (decDigits (dec a/dec b)), .v .s (decDigits (dec a % dec b))]):=by
 refine Zaj Zao Tryz.func112 ?_
 have hb9:0<b.length:=List.length_pos_iff.2 hb.1
 obtain⟨fr,hfr⟩: ∃k,min a.length (b.length-1)=k:=⟨_,rfl⟩
 have hfa:fr≤a.length:=by omega
 have emin:(if IntKind.i64.wrap ((b.length:Int)-1)<(a.length:Int)then IntKind.i64.wrap ((b.length:Int)-1)else(a.length:Int))=(fr:Int):=by
  rw[Zan (by omega) (by omega)]
  split<;>omega
 have bsl:(0:Int)≤(if IntKind.i64.wrap ((b.length:Int)-1)<(a.length:Int)then IntKind.i64.wrap ((b.length:Int)-1)else(a.length:Int))∧(if IntKind.i64.wrap ((b.length:Int)-1)<(a.length:Int)then IntKind.i64.wrap ((b.length:Int)-1)else(a.length:Int))≤(a.length:Int):=by rw[emin];omega
 have eT:List.drop 0 (List.take (Int.toNat (if IntKind.i64.wrap ((b.length:Int)-1)<(a.length:Int)then IntKind.i64.wrap ((b.length:Int)-1)else(a.length:Int))) a)=a.take fr:=by rw[emin,Int.toNat_natCast,List.drop_zero]
 have hdt:Dg (a.take fr):=fun c hc=>ha c (List.mem_of_mem_take hc)
 have hS:=ZiV ([48]++List.drop 0 (List.take (Int.toNat (if IntKind.i64.wrap ((b.length:Int)-1)<(a.length:Int)then IntKind.i64.wrap ((b.length:Int)-1)else(a.length:Int))) a)) (by rw[eT];exact Dg.app (fun c hc=>by rw[List.mem_singleton.1 hc];decide) hdt) (by simp) (by rw[eT];simp;omega)
 rw[show dec ([48]++List.drop 0 (List.take (Int.toNat (if IntKind.i64.wrap ((b.length:Int)-1)<(a.length:Int)then IntKind.i64.wrap ((b.length:Int)-1)else(a.length:Int))) a))=dec (a.take fr)from by rw[eT];exact Zh6 hdt]at hS
 have hR0:dec (a.take fr)<dec b:=by
  have h1:=ZbK hdt
  rw[List.length_take,Nat.min_eq_left hfa]at h1
  by_cases hb1:1<b.length
  ·exact Nat.lt_of_lt_of_le h1 (Nat.le_trans (Nat.pow_le_pow_right (by decide) (by omega)) (hb.ge hb1))
  ·have:fr=0:=by omega
   subst this
   exact hb0
 refine And.intro bsl ?_
 refine And.intro (by show 1+(List.drop 0 (List.take (Int.toNat (if IntKind.i64.wrap ((b.length:Int)-1)<(a.length:Int)then IntKind.i64.wrap ((b.length:Int)-1)else(a.length:Int))) a)).length≤_;rw[eT,List.length_take];omega) ?_
 refine hS.mono ?_
 rintro _ rfl
 refine ZaC Zao rfl (fun(t:Nat×List UInt8×Nat)=> [(0, .v .s a),(1, .v .s b),(7, .v .s t.2.1),(8, .v .s (decDigits t.2.2)),(9, .v (.i .i64) (t.1:Int))]) (fun _=> [])
  (fun t=>t.1≤a.length∧Dg t.2.1∧t.2.1≠ []∧t.2.1.length≤t.1+1∧t.2.2<dec b∧dec (a.take t.1)=dec t.2.1*dec b+t.2.2) (fun t=>a.length-t.1) ?_ (fr,[48],dec (a.take fr)) ?_ ?_
 ·rintro⟨i,q,R⟩ ⟨hi,hq,hqn,hql,hR,hval⟩
  simp only at hi hq hqn hql hR hval
  refine And.intro (fun h=> ?_) (fun h=> ?_)
  ·have hlt:i<a.length:=by have h':(i:Int)<(a.length:Int):=of_decide_eq_true h;omega
   obtain⟨c,hc⟩: ∃c,a[i]=c:=⟨_,rfl⟩
   have hc9:=ha _ (List.getElem_mem hlt)
   rw[hc]at hc9
   have ei:IntKind.i64.wrap ((i:Int)+1)=((i+1:Nat):Int):=Zan (by omega) (by omega)
   have eS:List.drop (i:Int).toNat (List.take (IntKind.i64.wrap ((i:Int)+1)).toNat a)=[c]:=by
    rw[ei,Int.toNat_natCast,Int.toNat_natCast,List.take_succ_eq_append_getElem hlt,hc]
    exact List.drop_left' (by rw[List.length_take];omega)
   have hRl:(decDigits R).length≤b.length:=(Zbm hb9).2 (Nat.lt_trans hR (ZbK hb.2.1))
   have hS:=ZiV (decDigits R++List.drop (i:Int).toNat (List.take (IntKind.i64.wrap ((i:Int)+1)).toNat a)) (by rw[eS];exact Dg.app (ZcK R) (fun x hx=>by rw[List.mem_singleton.1 hx];exact hc9)) (by rw[eS];simp) (by rw[eS];simp;omega)
   rw[show dec (decDigits R++List.drop (i:Int).toNat (List.take (IntKind.i64.wrap ((i:Int)+1)).toNat a))=R*10+(c.toNat-48)from by rw[eS,ZdJ,ZaI]]at hS
   obtain⟨R1,hR1⟩: ∃n,R*10+(c.toNat-48)=n:=⟨_,rfl⟩
   rw[hR1]at hS
   have hR1b:R1<10*dec b:=by omega
   refine And.intro (by show 0≤(i:Int)∧(i:Int)≤IntKind.i64.wrap ((i:Int)+1)∧IntKind.i64.wrap ((i:Int)+1)≤(a.length:Int);rw[ei];omega) ?_
   refine And.intro (by show(decDigits R).length+(List.drop (i:Int).toNat (List.take (IntKind.i64.wrap ((i:Int)+1)).toNat a)).length≤_;rw[eS];show(decDigits R).length+1≤_;omega) ?_
   refine hS.mono ?_
   rintro _ rfl
   refine((Zr2 a b q i R1 hb hb0 hlb hR1b).ent ?_).mono ?_
   ·refine Zaq rfl rfl ?_ ?_
    ·exact⟨rfl,rfl,rfl,rfl,rfl,rfl,trivial⟩
    ·exact trivial
   rintro _ _ _ ⟨rfl,X1,X2,X3,X4,rfl,rfl⟩
   have hq9:R1/dec b<10:=Nat.div_lt_of_lt_mul (by rw[Nat.mul_comm];exact hR1b)
   obtain⟨d,hd⟩: ∃d,R1/dec b=d:=⟨_,rfl⟩
   have hdm:=Nat.div_add_mod R1 (dec b)
   rw[hd]at hq9 hdm
   have eq1:q++ [UInt8.ofNat (48+d)]=q++ [UInt8.ofNat ((48+R1/dec b:Nat):Int).toNat]:=by rw[hd,Int.toNat_natCast]
   refine And.intro (by show(0:Int)≤((48+R1/dec b:Nat):Int)∧((48+R1/dec b:Nat):Int)<128;rw[hd];omega) ?_
   refine And.intro (by show q.length+1≤9223372036854775807;omega) ?_
   refine⟨(i+1,q++ [UInt8.ofNat (48+d)],R1 % dec b),⟨hlt, ?_,by simp, ?_,Nat.mod_lt _ hb0, ?_⟩,by show a.length-(i+1)<a.length-i;omega, ?_⟩
   ·exact hq.app (fun x hx=>by rw[List.mem_singleton.1 hx,Zcp hq9];omega)
   ·show(q++ [_]).length≤i+1+1
    simp
    omega
   ·show dec (a.take (i+1))=dec (q++ [UInt8.ofNat (48+d)])*dec b+R1 % dec b
    rw[List.take_succ_eq_append_getElem hlt,hc,ZdJ,ZdJ,Zcp hq9,hval,Nat.add_sub_cancel_left]
    have e3:(dec q*10+d)*dec b=dec q*dec b*10+dec b*d:=by rw[Nat.add_mul,Nat.mul_comm d,Nat.mul_assoc,Nat.mul_comm 10,←Nat.mul_assoc]
    rw[e3,Nat.add_mul]
    omega
   ·refine Zaq rfl rfl ?_ ?_
    ·exact⟨rfl,rfl,eq1,rfl,ei.symm,trivial⟩
    ·exact trivial
  ·have he:i=a.length:=by have h': ¬ (i:Int)<(a.length:Int):=of_decide_eq_false h;omega
   subst he
   rw[List.take_length]at hval
   refine(ZiV q hq hqn (by omega)).mono ?_
   rintro _ rfl
   have e1:dec a/dec b=dec q:=by
    rw[hval,Nat.mul_comm,Nat.mul_add_div hb0,Nat.div_eq_of_lt hR,Nat.add_zero]
   have e2:dec a % dec b=R:=by
    rw[hval,Nat.mul_comm,Nat.mul_add_mod,Nat.mod_eq_of_lt hR]
   show SV.tup [.v .s (decDigits (dec q)), .v .s (decDigits R)]=_
   rw[e1,e2]
 ·refine⟨hfa,fun c hc=>by rw[List.mem_singleton.1 hc];decide,by simp,by show 1≤fr+1;omega,hR0, ?_⟩
  show dec (a.take fr)=dec [48]*dec b+dec (a.take fr)
  rw[ZgB]
  simp
 ·refine Zaq rfl rfl ?_ ?_
  ·exact⟨rfl,rfl,rfl,rfl,emin.symm,trivial⟩
  ·exact trivial
theorem ZnU (n:Nat):(decDigits n==[48])=decide (n=0):=by
 by_cases h:n=0
 ·subst h
  rw[decDigits_one (by decide)]
  rfl
 ·rw[decide_eq_false h]
  cases hb:(decDigits n==[48])with
  |false=>rfl
  |true=>
   have h1:decDigits n=[48]:=by simpa using hb
   have h2:=ZaI n
   rw[h1]at h2
   exact absurd h2.symm h
set_option maxHeartbeats 8000000 in
theorem ZqK (a b:List UInt8) (ha:Cn a) (hb:Cn b) (hla:a.length≤90000) (hlb:b.length≤90000):PureOK Tryz.prog Zau 54 [.v .s a, .v .s b] (fun V=>V= .v .s (decDigits (Nat.gcd (dec a) (dec b)))):=by
 refine Zaj Zao Tryz.func54 ?_
 obtain⟨L,hL0⟩: ∃L:Nat,90000=L:=⟨_,rfl⟩
 rw[hL0]at hla hlb
 have hL1:1≤L:=by omega
 have hxa:dec a<10^L:=Nat.lt_of_lt_of_le (ZbK ha.2.1) (Nat.pow_le_pow_right (by decide) hla)
 have hxb:dec b<10^L:=Nat.lt_of_lt_of_le (ZbK hb.2.1) (Nat.pow_le_pow_right (by decide) hlb)
 have hL: ∀ {n:Nat},n<10^L→(decDigits n).length≤L:=fun h=>(Zbm hL1).2 h
 generalize(10:Nat)^L=P at*
 refine ZaC Zao rfl (fun(t:Nat×Nat)=> [(0, .v .s (decDigits t.1)),(1, .v .s (decDigits t.2))]) (fun _=> [])
  (fun t=>t.1<P∧t.2<P∧Nat.gcd t.1 t.2=Nat.gcd (dec a) (dec b)) (fun t=>t.2) ?_ (dec a,dec b) ?_ ?_
 ·rintro⟨x,y⟩ ⟨hx,hy,hg⟩
  simp only at hx hy hg
  have hz:=ZnU y
  refine And.intro (fun h=> ?_) (fun h=> ?_)
  ·have h':(!(decDigits y==[48]))=true:=h
   have hy0:0<y:=by
    rcases Nat.eq_zero_or_pos y with h0|h0
    ·rw[hz,decide_eq_true h0]at h'
     cases h'
    ·exact h0
   have hD:=Zp5 (decDigits x) (decDigits y) (ZcK x) (Zcb y) (by rw[ZaI];exact hy0) (by have:=hL hx;omega) (by have:=hL hy;omega)
   rw[ZaI,ZaI]at hD
   refine hD.mono ?_
   rintro _ rfl
   have hr:x % y<y:=Nat.mod_lt _ hy0
   refine⟨(y,x % y),⟨hy,by show x % y<P;omega, ?_⟩,hr, ?_⟩
   ·show Nat.gcd y (x % y)=_
    rw[←hg,Nat.gcd_comm y (x % y),←Nat.gcd_rec y x]
    exact Nat.gcd_comm y x
   ·refine Zaq rfl rfl ?_ ?_
    ·exact⟨rfl,rfl,trivial⟩
    ·exact trivial
  ·have h':(!(decDigits y==[48]))=false:=h
   have hy0:y=0:=by
    rcases Nat.eq_zero_or_pos y with h0|h0
    ·exact h0
    ·rw[hz,decide_eq_false (by omega)]at h'
     cases h'
   subst hy0
   rw[Nat.gcd_zero_right]at hg
   show SV.v .s (decDigits x)=_
   rw[hg]
 ·exact⟨hxa,hxb,rfl⟩
 ·refine Zaq rfl rfl ?_ ?_
  ·exact⟨ha.eq,hb.eq,trivial⟩
  ·exact trivial
end Go.Proofs.YtdnodlkdndfplaaGreatDoor
/-
 The reference: parts, Canon, RatAdd, RatSub, RatNeg, RatMul, RatDiv, RatSign, RatCmp.
-/
namespace Go.Proofs.YtdnodlkdndfplaaGreatDoor
open Go.Am Go.Tx Dv Go.Lib
set_option maxRecDepth 100000
end Go.Proofs.YtdnodlkdndfplaaGreatDoor
/-
 The reference: Canon, RatAdd, RatSub, RatNeg, RatMul, RatDiv, RatSign, RatCmp.
-/
namespace Go.Proofs.YtdnodlkdndfplaaGreatDoor
open Go.Am Go.Tx Dv Go.Lib
set_option maxRecDepth 100000
end Go.Proofs.YtdnodlkdndfplaaGreatDoor
/-
 Sizes of rational numbers in words; lists of rational numbers as the program holds them.
-/
namespace Go.Proofs.YtdnodlkdndfplaaGreatDoor
open Go.Am Go.Tx Dv Go.Lib
set_option maxRecDepth 100000
end Go.Proofs.YtdnodlkdndfplaaGreatDoor
/-
 From one piece of code to the next.
-/
namespace Go.Tx
open Go.Am
section
variable {P : Program} {h : Hints} {T : TypeId → TI} {tm : TM} {hp : List SM} {F : Nat}
theorem wpg_next {k:Ex→TM→List SM→Prop} {n:TM→List SM→Prop} (hn:n tm hp):ZtT k n .normal tm hp:=hn
theorem wpg_blkout {id:Nat} {k:Ex→TM→List SM→Prop} (hn:k .normal tm hp):ZtL id k .normal tm hp:=hn
theorem wpg_skipc {c:Cx} {k:Ex→TM→List SM→Prop} (hn:k .normal tm hp):wp P h T F c .skip tm hp k:=hn
variable {N : Nat} {ds : List (Option Tmp)} {o : Oper} {l : List Oper} {kk : TM → List SM → Prop} {j d dd : Nat} {w t : Bool} {V : SV}
theorem Zgn {hp':List SM} (hg:o.guard=none) (he: ∀k,opT P h T o.op tm hp k=k V hp') (ho:o.dst=some dd) (hN:Nat.ble (dd+1) N=true) (hk:wpOps P h T N ds l ((dd,V)::tm) hp' kk):wpOps P h T N ds (o::l) tm hp kk:=by
 refine Zbr hg ?_
 rw[he]
 have hk:=ZaH (c:=fun tm'=>wpOps P h T N ds l tm' hp' kk) (V:=V) (tm:=tm) ho hN hk
 exact hk
end
end Go.Tx
