/-
 The operations of large.Rat on rational numbers.
-/
import Derived.Test.YtdnodlkdndfplaaGreatDoorDq
set_option linter.constructorNameAsVariable false
set_option linter.unusedSimpArgs false
set_option linter.unusedVariables false
namespace Go.Proofs.YtdnodlkdndfplaaGreatDoor
open Go.Am Go.Tx Dv Go.Lib
set_option maxRecDepth 100000
def szQ (q:Rat) (k:Nat):Prop:=ln q.num≤k∧ln (q.den:Int)≤k
theorem ZkF (p q:Rat):Rat.divInt (p.num*q.den+q.num*p.den) (p.den*q.den)=p+q:=by
 rw[Rat.add_def',←Int.natCast_mul,Rat.divInt_ofNat]
theorem Zhv (p q:Rat):Rat.divInt (p.num*q.num) (p.den*q.den)=p*q:=by
 rw[Rat.mul_def',←Int.natCast_mul,Rat.divInt_ofNat]
theorem Zpt (p q:Rat):Rat.divInt (p.num*q.den) (p.den*q.num)=p/q:=by
 rw[Rat.div_def,Rat.inv_def]
 conv=>rhs;rw[←Rat.num_divInt_den p]
 rw[Rat.divInt_mul_divInt]
theorem Zc5 (q:Rat):0<(q.den:Int):=by have:=q.den_pos;omega
theorem ZjJ (v:Int):sg (decide (v<0)) ((v.natAbs:Nat):Int)=v:=by
 by_cases h:v<0
 ·rw[decide_eq_true h];simp only[sg];omega
 ·rw[decide_eq_false h];simp only[sg];omega
set_option maxHeartbeats 4000000 in
theorem Zyl (p q:Rat) {k:Nat} (hk:k≤100000000) (hp:szQ p k) (hq:szQ q k):PureOK Tryz.prog Zaw 47 [QR p,QR q] (fun V=>V=QR (p+q)):=by
 obtain⟨p1,p2⟩:=hp
 obtain⟨q1,q2⟩:=hq
 have l1:=ZdZ p.num q.den
 have l2:=ZdZ q.num p.den
 have l3:=ZdZ p.den q.den
 have l4:=Zyb (p.num*q.den) (q.num*p.den)
 refine Zak Zal Tryz.func47 ?_
 refine And.intro rfl ?_
 refine And.intro rfl ?_
 refine(Zmz p.num q.den (by omega) (by omega)).mono ?_
 rintro _ rfl
 refine And.intro rfl ?_
 refine And.intro rfl ?_
 refine(Zmz q.num p.den (by omega) (by omega)).mono ?_
 rintro _ rfl
 refine(ZvB (p.num*q.den) (q.num*p.den) (by omega) (by omega)).mono ?_
 rintro _ rfl
 refine And.intro rfl ?_
 refine And.intro rfl ?_
 refine(Zmz p.den q.den (by omega) (by omega)).mono ?_
 rintro _ rfl
 refine(ZnH (p.num*q.den+q.num*p.den) (p.den*q.den) (by have:=Int.mul_pos (Zc5 p) (Zc5 q);omega) (by omega) (by omega)).mono ?_
 rintro _ rfl
 rw[ZkF]
 refine And.intro rfl ?_
 exact⟨rfl,rfl⟩
set_option maxHeartbeats 4000000 in
theorem Zwc (p q:Rat) {k:Nat} (hk:k≤100000000) (hp:szQ p k) (hq:szQ q k):PureOK Tryz.prog Zaw 51 [QR p,QR q] (fun V=>V=QR (p*q)):=by
 obtain⟨p1,p2⟩:=hp
 obtain⟨q1,q2⟩:=hq
 have l1:=ZdZ p.num q.num
 have l3:=ZdZ p.den q.den
 refine Zak Zal Tryz.func51 ?_
 refine And.intro rfl ?_
 refine And.intro rfl ?_
 refine(Zmz p.num q.num (by omega) (by omega)).mono ?_
 rintro _ rfl
 refine And.intro rfl ?_
 refine And.intro rfl ?_
 refine(Zmz p.den q.den (by omega) (by omega)).mono ?_
 rintro _ rfl
 refine(ZnH (p.num*q.num) (p.den*q.den) (by have:=Int.mul_pos (Zc5 p) (Zc5 q);omega) (by omega) (by omega)).mono ?_
 rintro _ rfl
 rw[Zhv]
 refine And.intro rfl ?_
 exact⟨rfl,rfl⟩
set_option maxHeartbeats 4000000 in
theorem ZyX (p q:Rat) {k:Nat} (hk:k≤100000000) (hp:szQ p k) (hq:szQ q k) (h0:q≠0):PureOK Tryz.prog Zaw 124 [QR p,QR q] (fun V=>V=QR (p/q)):=by
 obtain⟨p1,p2⟩:=hp
 obtain⟨q1,q2⟩:=hq
 have l1:=ZdZ p.num q.den
 have l3:=ZdZ p.den q.num
 have hn:q.num≠0:=fun h=>h0 (Rat.num_eq_zero.1 h)
 refine Zak Zal Tryz.func124 ?_
 refine And.intro rfl ?_
 refine And.intro rfl ?_
 refine(Zmz p.num q.den (by omega) (by omega)).mono ?_
 rintro _ rfl
 refine And.intro rfl ?_
 refine And.intro rfl ?_
 refine(Zmz p.den q.num (by omega) (by omega)).mono ?_
 rintro _ rfl
 refine(ZnH (p.num*q.den) (p.den*q.num) (Int.mul_ne_zero (by have:=Zc5 p;omega) hn) (by omega) (by omega)).mono ?_
 rintro _ rfl
 rw[Zpt]
 refine And.intro rfl ?_
 exact⟨rfl,rfl⟩
theorem ZrJ (q:Rat) {k:Nat} (hk:k≤100000000) (hq:szQ q k):PureOK Tryz.prog Zaw 121 [QR q] (fun V=>V=QR (-q)):=Zx8 q.num q.den (Nat.le_trans hq.1 (by omega))
theorem ZvJ {q:Rat} {k:Nat} (hq:szQ q k):szQ (-q) k:=by
 obtain⟨h1,h2⟩:=hq
 refine⟨?_,h2⟩
 show ln (-q.num)≤k
 rw[Zob]
 exact h1
set_option maxHeartbeats 4000000 in
theorem ZyA (p q:Rat) {k:Nat} (hk:k≤100000000) (hp:szQ p k) (hq:szQ q k):PureOK Tryz.prog Zaw 125 [QR p,QR q] (fun V=>V=QR (p-q)):=by
 refine Zak Zal Tryz.func125 ?_
 refine And.intro rfl ?_
 refine And.intro rfl ?_
 refine(ZrJ q hk hq).mono ?_
 rintro _ rfl
 refine(Zyl p (-q) hk hp (ZvJ hq)).mono ?_
 rintro _ rfl
 rw[←Rat.sub_eq_add_neg]
 refine And.intro rfl ?_
 exact⟨rfl,rfl⟩
end Go.Proofs.YtdnodlkdndfplaaGreatDoor
/-
 strings.Index, Contains, Cut at a text of one byte.
-/
namespace Go.Proofs.YtdnodlkdndfplaaGreatDoor
open Go.Am Go.Tx Dv Go.Lib
set_option maxRecDepth 100000
theorem ZwR (s:List UInt8) (c:UInt8):PureOK Tryz.prog Zaw 168 [.v .s s, .v .s [c]] (fun V=>V= .v (.i .i64) (ZbH s c 0)):=by
 refine⟨fun qs hr=> ?_⟩
 simp only[RL,RV,RR,List.cons.injEq,and_true]at hr
 obtain⟨_,_,rfl,rfl,_,_,rfl,rfl,rfl⟩:=hr
 refine⟨.int .i64 (ZbH s c 0),_, ?_, ?_,rfl⟩
 ·show(indexG [.str ⟨s.toArray⟩, .str ⟨[c].toArray⟩]).bind (fun v=>exp ZaE [] v)=_
  rfl
 ·simp only[RV,RR]
theorem ZvO (s:List UInt8) (c:UInt8): -1≤ZbH s c 0∧ZbH s c 0<s.length:=by
 have h: ∀ (l:List UInt8) (i:Nat),-1≤ZbH l c i∧ZbH l c i<i+l.length∨ZbH l c i= -1:=by
  intro l
  induction l with
  |nil=>intro i;right;rfl
  |cons b l ih=>
   intro i
   rw[ZbH]
   cases Nat.beq b.toNat c.toNat with
   |true=>left;simp only[List.length_cons];omega
   |false=>
    simp only
    rcases ih (i+1)with h|h
    ·left;simp only[List.length_cons];omega
    ·right;exact h
 rcases h s 0 with h|h<;>omega
theorem Zzs (s:List UInt8) (c:UInt8) (hl:s.length≤9223372036854775806):PureOK Tryz.prog Zaw 146 [.v .s s, .v .s [c]] (fun V=>V= .tup [.v .s (Zc0 s c).1, .v .s (Zc0 s c).2.1, .v .b (Zc0 s c).2.2]):=by
 refine Zak Zal Tryz.func146 ?_
 have hi:=ZvO s c
 refine(ZwR s c).mono ?_
 rintro _ rfl
 obtain⟨k,hk⟩: ∃k,ZbH s c 0=k:=⟨_,rfl⟩
 have hcut:Zc0 s c=match decide (0≤k)with|true=>(s.take k.toNat,s.drop (k.toNat+1),true)|false=>(s,[],false):=by rw[←hk];rfl
 rw[hk]at hi⊢
 refine And.intro (fun h=> ?_) (fun h=> ?_)
 ·have h':decide (0≤k)=true:=h
  have h0:0≤k:=of_decide_eq_true h'
  have e1:IntKind.i64.wrap (k+1)=k+1:=Zao (by omega) (by omega)
  refine And.intro (show 0≤k∧k≤(s.length:Int)from⟨h0,by omega⟩) ?_
  refine And.intro (by show 0≤IntKind.i64.wrap (k+1)∧IntKind.i64.wrap (k+1)≤(s.length:Int);rw[e1];omega) ?_
  have e2:List.drop (IntKind.i64.wrap (k+1)).toNat (List.take s.length s)=s.drop (k.toNat+1):=by
   rw[e1,List.take_length,show(k+1).toNat=k.toNat+1 by omega]
  show SV.tup [.v .s (List.drop 0 (List.take k.toNat s)), .v .s (List.drop (IntKind.i64.wrap (k+1)).toNat (List.take s.length s)), .v .b true]=_
  rw[e2,hcut,h']
  rfl
 ·have h':decide (0≤k)=false:=h
  rw[hcut,h']
  rfl
theorem ZyC (s:List UInt8) (c:UInt8) (hl:s.length≤9223372036854775806):PureOK Tryz.prog Zaw 106 [.v .s s, .v .s [c]] (fun V=>V= .tup [.v .s (Zc0 s c).1, .v .s (Zc0 s c).2.1, .v .b (Zc0 s c).2.2]):=by
 refine Zak Zal Tryz.func106 ?_
 refine(Zzs s c hl).mono ?_
 rintro _ rfl
 rfl
end Go.Proofs.YtdnodlkdndfplaaGreatDoor
/-
 large.Read: the number of a text.
-/
namespace Go.Proofs.YtdnodlkdndfplaaGreatDoor
open Go.Am Go.Tx Dv
set_option maxRecDepth 100000
theorem ZpU (ds:List UInt8):ZmE (45::ds) [45]=true:=by simp[ZmE];omega
theorem ZnI {ds:List UInt8} (h:Dg ds):ZmE ds [45]=false:=by
 cases ds with
 |nil=>rfl
 |cons c r=>
  have h1:=h c List.mem_cons_self
  have h2:c≠45:=by rintro rfl;exact absurd h1.1 (by decide)
  simp[ZmE,h2]
theorem ZvW {s:List UInt8} (h:Dg s):(wOf (dec s)).length≤s.length:=by
 rw[Zcr]
 exact Nat.lt_of_lt_of_le (ZbF h) (Nat.pow_le_pow_left (by decide) _)
theorem ZqK (s:List UInt8) (n:Nat):dec s=dec (s.take n)*10^(s.drop n).length+dec (s.drop n):=by
 conv=>lhs;rw[←List.take_append_drop n s]
 exact Zkz _ _
def ZqW (neg:Bool) (ds:List UInt8):List UInt8:=match neg with|true=>45::ds|false=>ds
def ZAl (neg:Bool) (t:List UInt8×Nat):TM:=[(0, .v .s t.1),(2, .ptr 0 0 0),(3, .v .b neg),(4, .ptr 1 0 0)]
def Zz4 (t:List UInt8×Nat):List SM:=[.cell [.v .b false, .nils] true, .cell [.v .b false,Za0 (wOf t.2)] true]
set_option maxHeartbeats 8000000 in
theorem Zsx (neg:Bool) (ds:List UInt8) (hd:Dg ds) (hl:ds.length≤300000000):PureOK Tryz.prog Zaw 109 [.v .s (ZqW neg ds)] (fun V=>V=IS (sg neg (dec ds:Nat))):=by
 obtain⟨s,hs⟩: ∃s,ZqW neg ds=s:=⟨_,rfl⟩
 have hP:ZmE s [45]=neg:=by cases neg<;>subst hs<;>first|exact ZpU ds|exact ZnI hd
 have hT:(match ZmE s [45]with|true=>s.drop [(45:UInt8)].length|false=>s)=ds:=by rw[hP];cases neg<;>subst hs<;>rfl
 rw[hs]
 refine Zak Zal Tryz.func109 ?_
 refine(Zm9 s [45]).mono ?_
 rintro _ rfl
 refine(ZgW s [45]).mono ?_
 rintro _ rfl
 refine And.intro rfl ?_
 refine Zaz Zal rfl (ZAl neg) Zz4 (fun t=>Dg t.1∧t.1.length≤ds.length∧dec ds=t.2*10^t.1.length+dec t.1∧(t.2=0∨t.1.length % 9=0)) (fun t=>t.1.length) ?_ (ds,0) ?_ ?_
 ·rintro⟨r,v⟩ ⟨h1,h2,h3,h4⟩
  simp only at h1 h2 h3 h4
  refine And.intro (fun h=> ?_) (fun h=> ?_)
  ·have hr:1≤r.length:=by have h':(0:Int)<(r.length:Int):=of_decide_eq_true h;omega
   obtain⟨n,hn⟩: ∃n,n=(r.length-1) % 9+1:=⟨_,rfl⟩
   have e1:IntKind.i64.wrap ((r.length:Int)-1)=((r.length-1:Nat):Int):=by rw[Zao (by omega) (by omega)];omega
   have e2:IntKind.i64.wrap ((IntKind.i64.wrap ((r.length:Int)-1)).tmod 9+1)=(n:Int):=by
    rw[e1,Int.tmod_eq_emod_of_nonneg (by omega),Zao (by omega) (by omega)];omega
   have hnr:n≤r.length:=by omega
   have bn:(0:Int)≤IntKind.i64.wrap ((IntKind.i64.wrap ((r.length:Int)-1)).tmod 9+1)∧IntKind.i64.wrap ((IntKind.i64.wrap ((r.length:Int)-1)).tmod 9+1)≤(r.length:Int):=by rw[e2];omega
   have hlt:(r.take n).length=n:=by rw[List.length_take];omega
   have hdt:Dg (r.take n):=fun c hc=>h1 c (List.mem_of_mem_take hc)
   have hdd:Dg (r.drop n):=fun c hc=>h1 c (List.mem_of_mem_drop hc)
   refine And.intro (by decide) ?_
   refine And.intro bn ?_
   have et:List.drop 0 (List.take (IntKind.i64.wrap ((IntKind.i64.wrap ((r.length:Int)-1)).tmod 9+1)).toNat r)=r.take n:=by rw[e2,List.drop_zero,Int.toNat_natCast]
   have hpu:=ZnG (r.take n) hdt (by omega) (by omega)
   rw[←et]at hpu
   refine hpu.mono ?_
   rintro _ rfl
   have hvd:v≤dec ds:=by
    have:v*1≤v*10^r.length:=Nat.mul_le_mul_left _ (Nat.one_le_pow _ _ (by decide))
    omega
   have hlv:ln (v:Int)≤300000000:=by
    rw[ln,Int.natAbs_natCast]
    exact Nat.le_trans (Zba hvd) (Nat.le_trans (ZvW hd) hl)
   have hdl:=ZbF hdt
   have hd9:dec (r.take n)<1000000000:=Nat.lt_of_lt_of_le hdl (Nat.pow_le_pow_right (by decide) (show(r.take n).length≤9 by omega))
   obtain⟨d,ed⟩: ∃d:Nat,dec (List.drop 0 (List.take (IntKind.i64.wrap ((IntKind.i64.wrap ((r.length:Int)-1)).tmod 9+1)).toNat r))=d:=⟨_,rfl⟩
   have ed':dec (r.take n)=d:=by rw[←ed,et]
   have edw:IntKind.i64.wrap ((dec (List.drop 0 (List.take (IntKind.i64.wrap ((IntKind.i64.wrap ((r.length:Int)-1)).tmod 9+1)).toNat r)):Nat):Int)=(d:Int):=by rw[ed];exact Zao (by omega) (by omega)
   refine And.intro rfl ?_
   refine(Zx4 1000000000 (by decide) (by decide)).mono ?_
   rintro _ rfl
   have l9:ln 1000000000≤2:=ZjV (by decide)
   have hmul:=Zmz (v:Int) 1000000000 (by omega) (by omega)
   rw[Zo5 v]at hmul
   refine hmul.mono ?_
   rintro _ rfl
   have hof:=Zx4 (d:Int) (by omega) (by omega)
   rw[←edw]at hof
   refine hof.mono ?_
   rintro _ rfl
   rw[edw]
   have ld:ln (d:Int)≤2:=ZjV (by omega)
   have lm:=ZdZ (v:Int) 1000000000
   refine(ZvB ((v:Int)*1000000000) (d:Int) (by omega) (by omega)).mono ?_
   rintro _ rfl
   refine And.intro rfl ?_
   refine And.intro bn ?_
   have exd:List.drop (IntKind.i64.wrap ((IntKind.i64.wrap ((r.length:Int)-1)).tmod 9+1)).toNat (List.take r.length r)=r.drop n:=by rw[e2,List.take_length,Int.toNat_natCast]
   have hv':((v*1000000000+d:Nat):Int)=(v:Int)*1000000000+d:=by omega
   have c1:false=decide ((v:Int)*1000000000+(d:Int)<0):=(decide_eq_false (by omega)).symm
   have c2:wOf (v*1000000000+d)=wOf ((v:Int)*1000000000+(d:Int)).natAbs:=by rw[←hv',Int.natAbs_natCast]
   refine⟨(r.drop n,v*1000000000+d),⟨hdd,by show(r.drop n).length≤_;rw[List.length_drop];omega, ?_, .inr ?_⟩,by show(r.drop n).length<r.length;rw[List.length_drop];omega, ?_⟩
   ·show dec ds=(v*1000000000+d)*10^(r.drop n).length+dec (r.drop n)
    have hsp:=ZqK r n
    rw[ed']at hsp
    rw[h3]
    have hv9:v*10^r.length=v*1000000000*10^(r.drop n).length:=by
     rcases h4 with h4|h4
     ·rw[h4];simp
     ·have:n=9:=by omega
      rw[List.length_drop,this,Nat.mul_assoc,show 1000000000=10^9 from rfl,←Nat.pow_add,show 9+(r.length-9)=r.length by omega]
    rw[hv9,Nat.add_mul]
    omega
   ·show(r.drop n).length % 9=0
    rw[List.length_drop];omega
   ·refine Zas rfl rfl ?_ ?_
    ·exact⟨exd.symm,⟨rfl,rfl⟩,rfl,⟨rfl,rfl⟩,trivial⟩
    ·exact⟨⟨⟨rfl,trivial,trivial⟩,fun _=>rfl⟩,⟨⟨c1,c2,trivial⟩,fun _=>rfl⟩,trivial⟩
  ·have hr:r=[]:=by
    cases r with
    |nil=>rfl
    |cons c l=>
     have h': ¬ (0:Int)<((c::l).length:Int):=of_decide_eq_false h
     simp at h'
   subst hr
   have hv:dec ds=v:=by
    rw[h3,Zke];simp
   have hl0:decide ((0:Int)<((wOf v).length:Int))=decide (0<v):=by
    refine decide_eq_decide.2 ?_
    have:=Zec (n:=v)
    rw[←List.length_eq_zero_iff]at this
    omega
   have fin:SV.agg [.v .b (neg&&decide ((0:Int)<((wOf v).length:Int))),Za0 (wOf v)]=IS (sg neg (dec ds:Nat)):=by
    rw[hv,hl0]
    show _=SV.agg [.v .b (decide (sg neg (v:Int)<0)),Za0 (wOf (sg neg (v:Int)).natAbs)]
    rw[ZlK,Int.natAbs_natCast]
    have:(neg&&decide (0<v))=decide (sg neg (v:Int)<0):=by
     cases neg with
     |true=>
      simp only[Bool.true_and,sg]
      exact decide_eq_decide.2 (by omega)
     |false=>
      simp only[Bool.false_and,sg]
      exact(decide_eq_false (by omega)).symm
    rw[this]
   cases neg with
   |true=>
    refine And.intro (fun _=> ?_) (fun h'=>nomatch h')
    refine And.intro (fun _=> ?_) (fun h'=>nomatch h')
    refine And.intro rfl ?_
    refine And.intro (fun _=> ?_) (fun h'=>nomatch h')
    refine And.intro (fun _=> ?_) (fun h'=>nomatch h')
    refine And.intro (fun _=> ?_) (fun h'=>nomatch h')
    refine⟨rfl,rfl,rfl,rfl,fin⟩
   |false=>
    refine And.intro (fun h'=>nomatch h') (fun _=> ?_)
    refine And.intro (fun h'=>nomatch h') (fun _=> ?_)
    refine And.intro (fun h'=>nomatch h') (fun _=> ?_)
    refine And.intro (fun h'=>nomatch h') (fun _=> ?_)
    refine And.intro (fun h'=>nomatch h') (fun _=> ?_)
    refine⟨rfl,rfl,rfl,rfl,fin⟩
 ·refine⟨hd,Nat.le_refl _,by simp, .inl rfl⟩
 ·refine Zas rfl rfl ?_ ?_
  ·exact⟨hT.symm,⟨rfl,rfl⟩,hP.symm,⟨rfl,rfl⟩,trivial⟩
  ·exact⟨⟨⟨rfl,trivial,trivial⟩,fun _=>rfl⟩,⟨⟨rfl,ZdJ,trivial⟩,fun _=>rfl⟩,trivial⟩
end Go.Proofs.YtdnodlkdndfplaaGreatDoor
/-
 nat.Check, nat.two, nat.text.
-/
namespace Go.Proofs.YtdnodlkdndfplaaGreatDoor
open Go.Am Go.Tx Dv Go.Lib
set_option maxRecDepth 100000
theorem Zsd {s:List UInt8} {i:Nat} (h:i<s.length):(ZeW s)[i]? =some ((s[i].toNat:Nat):Int):=by
 simp[ZeW,List.getElem?_eq_getElem h]
set_option maxHeartbeats 8000000 in
theorem Zk0 (s:List UInt8) (hl:s.length≤9223372036854775806):PureOK Tryz.prog Zaw 107 [.v .s s] (fun V=>V= .v (.i .i64) (ZaB s)):=by
 refine Zak Zal Tryz.func107 ?_
 have hbl:(ZeW s).length=s.length:=by simp[ZeW]
 refine Zaz Zal rfl (fun(i:Nat)=> [(0, .v .s s),(6, .v (.l (.i .u8)) (ZeW s)),(7, .v (.i .i64) (s.length:Int)),(8, .v (.i .i64) (i:Int))]) (fun _=> [])
  (fun i=>i≤s.length∧Dg (s.take i)) (fun i=>s.length-i) ?_ 0 ?_ ?_
 ·rintro i ⟨hi,hd⟩
  refine And.intro (fun h=> ?_) (fun h=> ?_)
  ·have hlt:i<s.length:=by have h':(i:Int)<(s.length:Int):=of_decide_eq_true h;omega
   obtain⟨c,hc⟩: ∃c,s[i]=c:=⟨_,rfl⟩
   have hx:(ZeW s)[(i:Int).toNat]? =some ((c.toNat:Nat):Int):=by rw[Int.toNat_natCast,Zsd hlt,hc]
   refine⟨((c.toNat:Nat):Int),Int.natCast_nonneg i,hx, ?_⟩
   have bad: ¬ (48≤c.toNat∧c.toNat≤57)→ZaB s=5:=by
    intro h
    have:cnB s=false:=by
     cases hb:cnB s with
     |false=>rfl
     |true=>exact absurd (hc▸(ZkT.1 hb).2.1 _ (List.getElem_mem hlt)) h
    simp only[ZaB,this]
   refine Zab (Zaa rfl ?_)
   iterate 3 refine Zaf rfl (fun _=>rfl) rfl rfl ?_
   cases h1:decide (((c.toNat:Nat):Int)<48)with
   |true=>
    have h1':((c.toNat:Nat):Int)<48:=of_decide_eq_true h1
    iterate 2 refine Zai rfl rfl rfl rfl rfl rfl ?_
    refine ZaJ rfl rfl rfl rfl rfl rfl rfl ?_
    refine Zah ?_
    refine And.intro (fun _=> ?_) (fun h'=>nomatch h')
    exact congrArg (SV.v (.i .i64)) (bad (by omega)).symm
   |false=>
    have h1': ¬ ((c.toNat:Nat):Int)<48:=of_decide_eq_false h1
    iterate 2 refine Zaj rfl rfl rfl rfl (fun _=>rfl) rfl rfl ?_
    refine ZaC rfl rfl rfl rfl rfl rfl rfl ?_
    refine Zah ?_
    refine And.intro (fun h2=> ?_) (fun h2=> ?_)
    ·have h2':(57:Int)<((c.toNat:Nat):Int):=of_decide_eq_true h2
     exact congrArg (SV.v (.i .i64)) (bad (by omega)).symm
    ·have h2': ¬ (57:Int)<((c.toNat:Nat):Int):=of_decide_eq_false h2
     have wi:IntKind.i64.wrap ((i:Int)+1)=((i+1:Nat):Int):=Zao (by omega) (by omega)
     refine⟨i+1,⟨hlt, ?_⟩,by show s.length-(i+1)<s.length-i;omega, ?_⟩
     ·rw[List.take_succ_eq_append_getElem hlt]
      refine hd.app ?_
      intro x hx
      rw[List.mem_singleton.1 hx,hc];omega
     ·refine Zas rfl rfl ?_ ?_
      ·exact⟨rfl,rfl,rfl,wi.symm,trivial⟩
      ·exact trivial
  ·have he:i=s.length:=by have h': ¬ (i:Int)<(s.length:Int):=of_decide_eq_false h;omega
   subst he
   rw[List.take_length]at hd
   have hdB:=Zk1.2 hd
   refine Zab (Zac rfl (Zab (Zaa rfl ?_)))
   have large:cnB s=true→(2000:Int)<(s.length:Int)→ZaB s=2:=fun h1 h2=>by
    have hb:Nat.ble s.length 2000=false:=by
     cases hb:Nat.ble s.length 2000 with
     |false=>rfl
     |true=>have:=Nat.le_of_ble_eq_true hb;omega
    simp only[ZaB,h1,hb]
   have fine:cnB s=true→ ¬ (2000:Int)<(s.length:Int)→ZaB s=0:=fun h1 h2=>by
    simp only[ZaB,h1,Nat.ble_eq_true_of_le (show s.length≤2000 by omega)]
   have bad:cnB s=false→ZaB s=5:=fun h=>by simp only[ZaB,h]
   iterate 3 refine Zaf rfl (fun _=>rfl) rfl rfl ?_
   cases h1:(s==([]:List UInt8))with
   |true=>
    have h1':s=[]:=by simpa using h1
    iterate 4 refine Zai rfl rfl rfl rfl rfl rfl ?_
    iterate 3 refine Zay rfl rfl rfl rfl rfl ?_
    refine Zai rfl rfl rfl rfl rfl rfl ?_
    refine ZaJ rfl rfl rfl rfl rfl rfl rfl ?_
    refine Zaf rfl (fun _=>rfl) rfl rfl ?_
    refine Zah ?_
    refine And.intro (fun _=> ?_) (fun h'=>nomatch h')
    exact congrArg (SV.v (.i .i64)) (bad (by subst h1';rfl)).symm
   |false=>
    have h1':s≠ []:=by simpa using h1
    have hem:s.isEmpty=false:=by simpa using h1'
    iterate 3 refine Zaj rfl rfl rfl rfl (fun _=>rfl) rfl rfl ?_
    refine Zaj rfl rfl rfl rfl (fun _=>rfl) rfl rfl ?_
    cases h2:decide ((1:Int)<(s.length:Int))with
    |true=>
     have h2':(1:Int)<(s.length:Int):=of_decide_eq_true h2
     obtain⟨c,r,hs⟩: ∃c r,s=c::r:=by
      cases s with
      |nil=>exact absurd rfl h1'
      |cons c r=>exact⟨c,r,rfl⟩
     have hd1:decide (1<s.length)=true:=decide_eq_true (by omega)
     have hcb:cnB s= !decide (((c.toNat:Nat):Int)=48):=by
      simp only[cnB,hdB,hem,hd1,Bool.true_and,Bool.not_false]
      congr 1
      rw[hs,List.head?_cons]
      by_cases h:c=48
      ·subst h;rfl
      ·have h3: ¬ ((c.toNat:Nat):Int)=48:=fun h4=>h (UInt8.toNat_inj.1 (by show c.toNat=48;omega))
       rw[decide_eq_false h3]
       simp[h]
     refine Zaj rfl rfl rfl rfl (fun _=>rfl) rfl rfl ?_
     refine Zf0 (x:=c) rfl rfl rfl rfl (fun _=>rfl) (Int.le_refl 0) (by rw[hs];rfl) rfl rfl ?_
     refine Zaj rfl rfl rfl rfl (fun _=>rfl) rfl rfl ?_
     refine ZcI rfl rfl rfl rfl rfl rfl rfl rfl rfl rfl ?_
     refine ZaC rfl rfl rfl rfl rfl rfl rfl ?_
     refine Zaf rfl (fun _=>rfl) rfl rfl ?_
     refine Zah ?_
     refine And.intro (fun h3=> ?_) (fun h3=> ?_)
     ·have h3':decide (((c.toNat:Nat):Int)=48)=true:=h3
      exact congrArg (SV.v (.i .i64)) (bad (by rw[hcb,h3'];rfl)).symm
     ·have h3':decide (((c.toNat:Nat):Int)=48)=false:=h3
      refine And.intro (fun h4=> ?_) (fun h4=> ?_)
      ·have h4':(2000:Int)<(s.length:Int):=of_decide_eq_true h4
       exact congrArg (SV.v (.i .i64)) (large (by rw[hcb,h3'];rfl) h4').symm
      ·have h4': ¬ (2000:Int)<(s.length:Int):=of_decide_eq_false h4
       exact congrArg (SV.v (.i .i64)) (fine (by rw[hcb,h3'];rfl) h4').symm
    |false=>
     have h2': ¬ (1:Int)<(s.length:Int):=of_decide_eq_false h2
     have hd1:decide (1<s.length)=false:=decide_eq_false (by omega)
     have hcb:cnB s=true:=by simp only[cnB,hdB,hem,hd1,Bool.true_and,Bool.false_and,Bool.not_false,Bool.and_self]
     iterate 3 refine Zai rfl rfl rfl rfl rfl rfl ?_
     refine Zes rfl rfl rfl rfl rfl rfl rfl rfl rfl rfl ?_
     refine ZaC rfl rfl rfl rfl rfl rfl rfl ?_
     refine Zaf rfl (fun _=>rfl) rfl rfl ?_
     refine Zah ?_
     refine And.intro (fun h'=>nomatch h') (fun _=> ?_)
     refine And.intro (fun h4=> ?_) (fun h4=> ?_)
     ·have h4':(2000:Int)<(s.length:Int):=of_decide_eq_true h4
      omega
     ·exact congrArg (SV.v (.i .i64)) (fine hcb (by omega)).symm
 ·exact⟨Nat.zero_le _,fun c hc=>by simp at hc⟩
 ·refine Zas rfl rfl ?_ ?_
  ·exact⟨rfl,rfl,by rw[←hbl];rfl,rfl,trivial⟩
  ·exact trivial
def Zx5 (a b:List UInt8):SV:=match decide (ZiS a b=0)with
 |true=> .tup [IS (dec a:Nat),IS (dec b:Nat), .v (.i .i64) (0:Int)]
 |false=> .tup [.agg [.v .b false, .nils], .agg [.v .b false, .nils], .v (.i .i64) (ZiS a b)]
set_option maxHeartbeats 8000000 in
theorem ZzO (a b:List UInt8) (hla:a.length≤9223372036854775806) (hlb:b.length≤9223372036854775806):PureOK Tryz.prog Zaw 147 [.v .s a, .v .s b] (fun V=>V=Zx5 a b):=by
 refine Zak Zal Tryz.func147 ?_
 refine Zaz Zal rfl (fun(i:Nat)=> [(0, .v .s a),(1, .v .s b),(4, .ptr 0 0 0),(5, .ptr 1 0 0),(12, .agg [.v .s a, .v .s b]),(13, .v (.i .i64) (i:Int))]) (fun _=> [.cell [.v .b false, .nils] true, .cell [.v .b false, .nils] true])
  (fun i=>i≤2∧(1≤i→ZaB a=0)∧(2≤i→ZaB b=0)) (fun i=>2-i) ?_ 0 ?_ ?_
 ·rintro i ⟨hi,h1,h2⟩
  rcases(show i=0∨i=1∨i=2 by omega)with rfl|rfl|rfl
  ·refine And.intro (fun _=> ?_) (fun h=>nomatch h)
   refine And.intro ⟨by decide,by decide⟩ ?_
   refine(Zk0 a hla).mono ?_
   rintro _ rfl
   refine And.intro (fun h=> ?_) (fun h=> ?_)
   ·have h':(!decide (ZaB a=0))=true:=h
    have he:decide (ZaB a=0)=false:=by cases hd:decide (ZaB a=0)<;>simp[hd]at h'⊢
    have hE:ZiS a b=ZaB a:=by simp only[ZiS,he]
    refine⟨rfl,rfl,rfl,rfl, ?_⟩
    simp only[Zx5,hE,he]
    rfl
   ·have h':(!decide (ZaB a=0))=false:=h
    have he:ZaB a=0:=by simpa using h'
    refine⟨1,⟨by decide,fun _=>he,fun h=>absurd h (by decide)⟩,by decide, ?_⟩
    refine Zas rfl rfl ?_ ?_
    ·exact⟨rfl,rfl,⟨rfl,rfl⟩,⟨rfl,rfl⟩,⟨rfl,rfl,trivial⟩,rfl,trivial⟩
    ·exact⟨⟨⟨rfl,trivial,trivial⟩,fun _=>rfl⟩,⟨⟨rfl,trivial,trivial⟩,fun _=>rfl⟩,trivial⟩
  ·have ha:=h1 (by decide)
   refine And.intro (fun _=> ?_) (fun h=>nomatch h)
   refine And.intro ⟨by decide,by decide⟩ ?_
   refine(Zk0 b hlb).mono ?_
   rintro _ rfl
   have hE:ZiS a b=ZaB b:=by simp only[ZiS,ha,decide_true]
   refine And.intro (fun h=> ?_) (fun h=> ?_)
   ·have h':(!decide (ZaB b=0))=true:=h
    have he:decide (ZaB b=0)=false:=by cases hd:decide (ZaB b=0)<;>simp[hd]at h'⊢
    refine⟨rfl,rfl,rfl,rfl, ?_⟩
    simp only[Zx5,hE,he]
    rfl
   ·have h':(!decide (ZaB b=0))=false:=h
    have he:ZaB b=0:=by simpa using h'
    refine⟨2,⟨by decide,fun _=>ha,fun _=>he⟩,by decide, ?_⟩
    refine Zas rfl rfl ?_ ?_
    ·exact⟨rfl,rfl,⟨rfl,rfl⟩,⟨rfl,rfl⟩,⟨rfl,rfl,trivial⟩,rfl,trivial⟩
    ·exact⟨⟨⟨rfl,trivial,trivial⟩,fun _=>rfl⟩,⟨⟨rfl,trivial,trivial⟩,fun _=>rfl⟩,trivial⟩
  ·have ha:=Za2 (h1 (by decide))
   have hb:=Za2 (h2 (by decide))
   have hE:ZiS a b=0:=by simp only[ZiS,h1 (by decide),decide_true,h2 (by decide)]
   refine And.intro (fun h=>nomatch h) (fun _=> ?_)
   refine(Zsx false a ha.1.2.1 (by omega)).mono ?_
   rintro _ rfl
   refine(Zsx false b hb.1.2.1 (by omega)).mono ?_
   rintro _ rfl
   refine⟨rfl,rfl,rfl,rfl, ?_⟩
   simp only[Zx5,hE,decide_true]
   rfl
 ·exact⟨by decide,fun h=>absurd h (by decide),fun h=>absurd h (by decide)⟩
 ·refine Zas rfl rfl ?_ ?_
  ·exact⟨rfl,rfl,⟨rfl,rfl⟩,⟨rfl,rfl⟩,⟨rfl,rfl,trivial⟩,rfl,trivial⟩
  ·exact⟨⟨⟨rfl,trivial,trivial⟩,fun _=>rfl⟩,⟨⟨rfl,trivial,trivial⟩,fun _=>rfl⟩,trivial⟩
set_option maxHeartbeats 4000000 in
theorem Zy4 (n:Nat):PureOK Tryz.prog Zaw 148 [IS (n:Int)] (fun V=>V= .tup [.v .s (ZtN n).1, .v (.i .i64) (ZtN n).2]):=by
 refine Zak Zal Tryz.func148 ?_
 refine And.intro rfl ?_
 refine(Zph n).mono ?_
 rintro _ rfl
 obtain⟨h1,h2⟩:=Zth n
 rw[Int.natAbs_natCast]at*
 refine And.intro (fun h=> ?_) (fun h=> ?_)
 ·have h':(!Zcq (wOf n))=true:=h
  have hb:Nat.ble (decDigits n).length 2000=false:=by rw[←h1];cases ht:Zcq (wOf n)<;>simp[ht]at h'⊢
  simp only[ZtN,hb]
  rfl
 ·have h':(!Zcq (wOf n))=false:=h
  have hb:Nat.ble (decDigits n).length 2000=true:=by rw[←h1];cases ht:Zcq (wOf n)<;>simp[ht]at h'⊢
  simp only[ZtN,hb]
  have h3:=h2 hb (decide ((n:Int)<0))
  rw[decide_eq_false (by omega)]at h3
  have h4:ZcV false (wOf n)=decDigits n:=by
   rw[h3]
   cases decide (n=0)<;>rfl
  show SV.tup [.v .s (ZcV (decide ((n:Int)<0)) (wOf n)), .v (.i .i64) (0:Int)]=_
  rw[decide_eq_false (by omega),h4]
end Go.Proofs.YtdnodlkdndfplaaGreatDoor
/-
 nat.Gcd, for a seat without the other functions of package nat.
-/
namespace Go.Proofs.YtdnodlkdndfplaaGreatDoor
open Go.Am Go.Tx Dv Go.Lib
set_option maxRecDepth 100000
abbrev rs (x:List UInt8×Int):SV:= .tup [.v .s x.1, .v (.i .i64) x.2]
def Zxn (a b:List UInt8) (x:List UInt8×Int):List UInt8×Int:=match decide (ZiS a b=0)with
 |true=>x
 |false=>([],ZiS a b)
theorem Ztu (a b:List UInt8) (hla:a.length≤9223372036854775806) (hlb:b.length≤9223372036854775806):(ZiS a b=0∧PureOK Tryz.prog Zaw 147 [.v .s a, .v .s b] (fun V=>V= .tup [IS (dec a:Nat),IS (dec b:Nat), .v (.i .i64) (0:Int)]))∨
 (ZiS a b≠0∧PureOK Tryz.prog Zaw 147 [.v .s a, .v .s b] (fun V=>V= .tup [.agg [.v .b false, .nils], .agg [.v .b false, .nils], .v (.i .i64) (ZiS a b)])):=by
 have h:=ZzO a b hla hlb
 cases hd:decide (ZiS a b=0)with
 |true=>
  refine .inl ⟨of_decide_eq_true hd,h.mono ?_⟩
  rintro V rfl
  simp only[Zx5,hd]
 |false=>
  refine .inr ⟨of_decide_eq_false hd,h.mono ?_⟩
  rintro V rfl
  simp only[Zx5,hd]
theorem ZvS {a:List UInt8} (h:ZaB a=0):ln (dec a:Nat)≤2000:=by
 rw[ln,Int.natAbs_natCast]
 exact Nat.le_trans (ZvW (Za2 h).1.2.1) (Za2 h).2
theorem RxDoorQ51lt {n k m:Nat} (h:n<10^k) (hk:k≤m):n<10^m:=Nat.lt_of_lt_of_le h (Nat.pow_le_pow_right (by decide) hk)
theorem ZjN {a:List UInt8} (h:ZaB a=0):dec a<10^2000:=RxDoorQ51lt (m:=2000) (ZbF (Za2 h).1.2.1) (Za2 h).2
set_option maxHeartbeats 4000000 in
theorem Zvy (a b:List UInt8) (hla:a.length≤9223372036854775806) (hlb:b.length≤9223372036854775806):PureOK Tryz.prog Zaw 108 [.v .s a, .v .s b] (fun V=>V=rs (Zxn a b (ZtN (Nat.gcd (dec a) (dec b))))):=by
 refine Zak Zal Tryz.func108 ?_
 rcases Ztu a b hla hlb with⟨hE,h2⟩|⟨hE,h2⟩
 ·refine h2.mono ?_
  rintro _ rfl
  obtain⟨ea,eb⟩:=ZqI hE
  have la:=ZvS ea
  have lb:=ZvS eb
  have da:=ZjN ea
  have db:=ZjN eb
  have hd:decide (ZiS a b=0)=true:=decide_eq_true hE
  refine And.intro rfl ?_
  refine And.intro rfl ?_
  refine And.intro (fun h=>absurd h (by decide)) (fun _=> ?_)
  refine And.intro rfl ?_
  refine And.intro rfl ?_
  refine(Zzk (dec a:Nat) (dec b:Nat) (by omega) (by omega)).mono ?_
  rintro _ rfl
  have ht:=Zy4 (Nat.gcd (dec a) (dec b))
  refine ht.mono ?_
  rintro _ rfl
  simp only[Zxn,hd]
  rfl
 ·refine h2.mono ?_
  rintro _ rfl
  have hd:decide (ZiS a b=0)=false:=decide_eq_false hE
  refine And.intro rfl ?_
  refine And.intro rfl ?_
  have hn:(!decide (ZiS a b=0))=true:=by rw[hd];rfl
  refine And.intro (fun _=> ?_) (fun h=>(nf hn h).elim)
  show _=rs (Zxn a b (ZtN (Nat.gcd (dec a) (dec b))))
  simp only[Zxn,hd]
end Go.Proofs.YtdnodlkdndfplaaGreatDoor
