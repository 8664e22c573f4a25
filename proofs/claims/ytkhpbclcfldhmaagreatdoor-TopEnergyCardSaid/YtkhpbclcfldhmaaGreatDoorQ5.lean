/-
 The operations of large.Rat on rational numbers.
-/
import Derived.Test.YtkhpbclcfldhmaaGreatDoorDq
set_option linter.constructorNameAsVariable false
set_option linter.unusedSimpArgs false
set_option linter.unusedVariables false
namespace Go.Proofs.YtkhpbclcfldhmaaGreatDoor
open Go.Am Go.Tx Dv Go.Lib
set_option maxRecDepth 100000
def szQ (q:Rat) (k:Nat):Prop:=ln q.num≤k∧ln (q.den:Int)≤k
theorem Zun (p q:Rat):Rat.divInt (p.num*q.den+q.num*p.den) (p.den*q.den)=p+q:=by
 rw[Rat.add_def',←Int.natCast_mul,Rat.divInt_ofNat]
theorem Ztw (p q:Rat):Rat.divInt (p.num*q.num) (p.den*q.den)=p*q:=by
 rw[Rat.mul_def',←Int.natCast_mul,Rat.divInt_ofNat]
theorem Zua (p q:Rat):Rat.divInt (p.num*q.den) (p.den*q.num)=p/q:=by
 rw[Rat.div_def,Rat.inv_def]
 conv=>rhs;rw[←Rat.num_divInt_den p]
 rw[Rat.divInt_mul_divInt]
theorem Zf0 (q:Rat):0<(q.den:Int):=by have:=q.den_pos;omega
theorem Zx3 (v:Int):sg (decide (v<0)) ((v.natAbs:Nat):Int)=v:=by
 by_cases h:v<0
 ·rw[decide_eq_true h];simp only[sg];omega
 ·rw[decide_eq_false h];simp only[sg];omega
set_option maxHeartbeats 4000000 in
theorem ZrI (p q:Rat) {k:Nat} (hk:k≤100000) (hp:szQ p k) (hq:szQ q k):PureOK Tryz.prog Zao 22 [QR p,QR q] (fun V=>V=QR (p+q)):=by
 obtain⟨p1,p2⟩:=hp
 obtain⟨q1,q2⟩:=hq
 have l1:=Zhs p.num q.den
 have l2:=Zhs q.num p.den
 have l3:=Zhs p.den q.den
 have l4:=Zxt (p.num*q.den) (q.num*p.den)
 refine Zae Zah Tryz.func22 ?_
 refine And.intro rfl ?_
 refine And.intro rfl ?_
 refine(ZlS p.num q.den (by omega) (by omega)).mono ?_
 rintro _ rfl
 refine And.intro rfl ?_
 refine And.intro rfl ?_
 refine(ZlS q.num p.den (by omega) (by omega)).mono ?_
 rintro _ rfl
 refine(Zts (p.num*q.den) (q.num*p.den) (by omega) (by omega)).mono ?_
 rintro _ rfl
 refine And.intro rfl ?_
 refine And.intro rfl ?_
 refine(ZlS p.den q.den (by omega) (by omega)).mono ?_
 rintro _ rfl
 refine(Zka (p.num*q.den+q.num*p.den) (p.den*q.den) (by have:=Int.mul_pos (Zf0 p) (Zf0 q);omega) (by omega) (by omega)).mono ?_
 rintro _ rfl
 rw[Zun]
 refine And.intro rfl ?_
 exact⟨rfl,rfl⟩
set_option maxHeartbeats 4000000 in
theorem ZuW (p q:Rat) {k:Nat} (hk:k≤100000) (hp:szQ p k) (hq:szQ q k):PureOK Tryz.prog Zao 41 [QR p,QR q] (fun V=>V=QR (p*q)):=by
 obtain⟨p1,p2⟩:=hp
 obtain⟨q1,q2⟩:=hq
 have l1:=Zhs p.num q.num
 have l3:=Zhs p.den q.den
 refine Zae Zah Tryz.func41 ?_
 refine And.intro rfl ?_
 refine And.intro rfl ?_
 refine(ZlS p.num q.num (by omega) (by omega)).mono ?_
 rintro _ rfl
 refine And.intro rfl ?_
 refine And.intro rfl ?_
 refine(ZlS p.den q.den (by omega) (by omega)).mono ?_
 rintro _ rfl
 refine(Zka (p.num*q.num) (p.den*q.den) (by have:=Int.mul_pos (Zf0 p) (Zf0 q);omega) (by omega) (by omega)).mono ?_
 rintro _ rfl
 rw[Ztw]
 refine And.intro rfl ?_
 exact⟨rfl,rfl⟩
set_option maxHeartbeats 4000000 in
theorem Zxu (p q:Rat) {k:Nat} (hk:k≤100000) (hp:szQ p k) (hq:szQ q k) (h0:q≠0):PureOK Tryz.prog Zao 27 [QR p,QR q] (fun V=>V=QR (p/q)):=by
 obtain⟨p1,p2⟩:=hp
 obtain⟨q1,q2⟩:=hq
 have l1:=Zhs p.num q.den
 have l3:=Zhs p.den q.num
 have hn:q.num≠0:=fun h=>h0 (Rat.num_eq_zero.1 h)
 refine Zae Zah Tryz.func27 ?_
 refine And.intro rfl ?_
 refine And.intro rfl ?_
 refine(ZlS p.num q.den (by omega) (by omega)).mono ?_
 rintro _ rfl
 refine And.intro rfl ?_
 refine And.intro rfl ?_
 refine(ZlS p.den q.num (by omega) (by omega)).mono ?_
 rintro _ rfl
 refine(Zka (p.num*q.den) (p.den*q.num) (Int.mul_ne_zero (by have:=Zf0 p;omega) hn) (by omega) (by omega)).mono ?_
 rintro _ rfl
 rw[Zua]
 refine And.intro rfl ?_
 exact⟨rfl,rfl⟩
theorem Zwc (q:Rat) {k:Nat} (hk:k≤100000) (hq:szQ q k):PureOK Tryz.prog Zao 70 [QR q] (fun V=>V=QR (-q)):=Zxo q.num q.den (Nat.le_trans hq.1 (by omega))
theorem ZxN {q:Rat} {k:Nat} (hq:szQ q k):szQ (-q) k:=by
 obtain⟨h1,h2⟩:=hq
 refine⟨?_,h2⟩
 show ln (-q.num)≤k
 rw[ZoE]
 exact h1
set_option maxHeartbeats 4000000 in
theorem ZxW (p q:Rat) {k:Nat} (hk:k≤100000) (hp:szQ p k) (hq:szQ q k):PureOK Tryz.prog Zao 48 [QR p,QR q] (fun V=>V=QR (p-q)):=by
 refine Zae Zah Tryz.func48 ?_
 refine And.intro rfl ?_
 refine And.intro rfl ?_
 refine(Zwc q hk hq).mono ?_
 rintro _ rfl
 refine(ZrI p (-q) hk hp (ZxN hq)).mono ?_
 rintro _ rfl
 rw[←Rat.sub_eq_add_neg]
 refine And.intro rfl ?_
 exact⟨rfl,rfl⟩
set_option maxHeartbeats 4000000 in
theorem Zx8 (n d:Int) (hn0: -9223372036854775808≤n) (hn1:n<9223372036854775808) (hd0: -9223372036854775808≤d) (hd1:d<9223372036854775808) (hd:d≠0):PureOK Tryz.prog Zao 24 [.v (.i .i64) n, .v (.i .i64) d] (fun V=>V=QR (Rat.divInt n d)):=by
 have l1:ln n≤2:=ZfU (by omega)
 have l2:ln d≤2:=ZfU (by omega)
 refine Zae Zah Tryz.func24 ?_
 refine(Zu5 n hn0 hn1).mono ?_
 rintro _ rfl
 refine(Zu5 d hd0 hd1).mono ?_
 rintro _ rfl
 refine(Zka n d hd (by omega) (by omega)).mono ?_
 rintro _ rfl
 refine And.intro rfl ?_
 exact⟨rfl,rfl⟩
end Go.Proofs.YtkhpbclcfldhmaaGreatDoor
/-
 strings.Index, Contains, Cut at a text of one byte.
-/
namespace Go.Proofs.YtkhpbclcfldhmaaGreatDoor
open Go.Am Go.Tx Dv Go.Lib
set_option maxRecDepth 100000
theorem ZuP (s:List UInt8) (c:UInt8):PureOK Tryz.prog Zao 73 [.v .s s, .v .s [c]] (fun V=>V= .v (.i .i64) (ZgV s c 0)):=by
 refine⟨fun qs hr=> ?_⟩
 simp only[RL,RV,RR,List.cons.injEq,and_true]at hr
 obtain⟨_,_,rfl,rfl,_,_,rfl,rfl,rfl⟩:=hr
 refine⟨.int .i64 (ZgV s c 0),_, ?_, ?_,rfl⟩
 ·show(indexG [.str ⟨s.toArray⟩, .str ⟨[c].toArray⟩]).bind (fun v=>exp ZaE [] v)=_
  rfl
 ·simp only[RV,RR]
theorem Zxx (s:List UInt8) (c:UInt8): -1≤ZgV s c 0∧ZgV s c 0<s.length:=by
 have h: ∀ (l:List UInt8) (i:Nat),-1≤ZgV l c i∧ZgV l c i<i+l.length∨ZgV l c i= -1:=by
  intro l
  induction l with
  |nil=>intro i;right;rfl
  |cons b l ih=>
   intro i
   rw[ZgV]
   cases Nat.beq b.toNat c.toNat with
   |true=>left;simp only[List.length_cons];omega
   |false=>
    simp only
    rcases ih (i+1)with h|h
    ·left;simp only[List.length_cons];omega
    ·right;exact h
 rcases h s 0 with h|h<;>omega
theorem ZxJ (s:List UInt8) (c:UInt8) (hl:s.length≤9223372036854775806):PureOK Tryz.prog Zao 57 [.v .s s, .v .s [c]] (fun V=>V= .tup [.v .s (ZhH s c).1, .v .s (ZhH s c).2.1, .v .b (ZhH s c).2.2]):=by
 refine Zae Zah Tryz.func57 ?_
 have hi:=Zxx s c
 refine(ZuP s c).mono ?_
 rintro _ rfl
 obtain⟨k,hk⟩: ∃k,ZgV s c 0=k:=⟨_,rfl⟩
 have hcut:ZhH s c=match decide (0≤k)with|true=>(s.take k.toNat,s.drop (k.toNat+1),true)|false=>(s,[],false):=by rw[←hk];rfl
 rw[hk]at hi⊢
 refine And.intro (fun h=> ?_) (fun h=> ?_)
 ·have h':decide (0≤k)=true:=h
  have h0:0≤k:=of_decide_eq_true h'
  have e1:IntKind.i64.wrap (k+1)=k+1:=Zar (by omega) (by omega)
  refine And.intro (show 0≤k∧k≤(s.length:Int)from⟨h0,by omega⟩) ?_
  refine And.intro (by show 0≤IntKind.i64.wrap (k+1)∧IntKind.i64.wrap (k+1)≤(s.length:Int);rw[e1];omega) ?_
  have e2:List.drop (IntKind.i64.wrap (k+1)).toNat (List.take s.length s)=s.drop (k.toNat+1):=by
   rw[e1,List.take_length,show(k+1).toNat=k.toNat+1 by omega]
  show SV.tup [.v .s (List.drop 0 (List.take k.toNat s)), .v .s (List.drop (IntKind.i64.wrap (k+1)).toNat (List.take s.length s)), .v .b true]=_
  rw[e2,hcut,h']
  rfl
 ·have h':decide (0≤k)=false:=h
  rw[hcut,h']
  rfl
theorem Zx1 (s:List UInt8) (c:UInt8) (hl:s.length≤9223372036854775806):PureOK Tryz.prog Zao 37 [.v .s s, .v .s [c]] (fun V=>V= .tup [.v .s (ZhH s c).1, .v .s (ZhH s c).2.1, .v .b (ZhH s c).2.2]):=by
 refine Zae Zah Tryz.func37 ?_
 refine(ZxJ s c hl).mono ?_
 rintro _ rfl
 rfl
end Go.Proofs.YtkhpbclcfldhmaaGreatDoor
/-
 large.Read: the number of a text.
-/
namespace Go.Proofs.YtkhpbclcfldhmaaGreatDoor
open Go.Am Go.Tx Dv
set_option maxRecDepth 100000
theorem Zp6 (ds:List UInt8):ZmF (45::ds) [45]=true:=by simp[ZmF];omega
theorem ZnU {ds:List UInt8} (h:Dg ds):ZmF ds [45]=false:=by
 cases ds with
 |nil=>rfl
 |cons c r=>
  have h1:=h c List.mem_cons_self
  have h2:c≠45:=by rintro rfl;exact absurd h1.1 (by decide)
  simp[ZmF,h2]
theorem Zvf {s:List UInt8} (h:Dg s):(wOf (dec s)).length≤s.length:=by
 rw[Zcg]
 exact Nat.lt_of_lt_of_le (ZjA h) (Nat.pow_le_pow_left (by decide) _)
theorem Zsl (s:List UInt8) (n:Nat):dec s=dec (s.take n)*10^(s.drop n).length+dec (s.drop n):=by
 conv=>lhs;rw[←List.take_append_drop n s]
 exact ZmN _ _
def Zr4 (neg:Bool) (ds:List UInt8):List UInt8:=match neg with|true=>45::ds|false=>ds
def Zzc (neg:Bool) (t:List UInt8×Nat):TM:=[(0, .v .s t.1),(2, .ptr 0 0 0),(3, .v .b neg),(4, .ptr 1 0 0)]
def Zy3 (t:List UInt8×Nat):List SM:=[.cell [.v .b false, .nils] true, .cell [.v .b false,Za8 (wOf t.2)] true]
set_option maxHeartbeats 8000000 in
theorem ZsO (neg:Bool) (ds:List UInt8) (hd:Dg ds) (hl:ds.length≤300000):PureOK Tryz.prog Zao 47 [.v .s (Zr4 neg ds)] (fun V=>V=IS (sg neg (dec ds:Nat))):=by
 obtain⟨s,hs⟩: ∃s,Zr4 neg ds=s:=⟨_,rfl⟩
 have hP:ZmF s [45]=neg:=by cases neg<;>subst hs<;>first|exact Zp6 ds|exact ZnU hd
 have hT:(match ZmF s [45]with|true=>s.drop [(45:UInt8)].length|false=>s)=ds:=by rw[hP];cases neg<;>subst hs<;>rfl
 rw[hs]
 refine Zae Zah Tryz.func47 ?_
 refine(Zm1 s [45]).mono ?_
 rintro _ rfl
 refine(Zg5 s [45]).mono ?_
 rintro _ rfl
 refine And.intro rfl ?_
 refine Zaz Zah rfl (Zzc neg) Zy3 (fun t=>Dg t.1∧t.1.length≤ds.length∧dec ds=t.2*10^t.1.length+dec t.1∧(t.2=0∨t.1.length % 9=0)) (fun t=>t.1.length) ?_ (ds,0) ?_ ?_
 ·rintro⟨r,v⟩ ⟨h1,h2,h3,h4⟩
  simp only at h1 h2 h3 h4
  refine And.intro (fun h=> ?_) (fun h=> ?_)
  ·have hr:1≤r.length:=by have h':(0:Int)<(r.length:Int):=of_decide_eq_true h;omega
   obtain⟨n,hn⟩: ∃n,n=(r.length-1) % 9+1:=⟨_,rfl⟩
   have e1:IntKind.i64.wrap ((r.length:Int)-1)=((r.length-1:Nat):Int):=by rw[Zar (by omega) (by omega)];omega
   have e2:IntKind.i64.wrap ((IntKind.i64.wrap ((r.length:Int)-1)).tmod 9+1)=(n:Int):=by
    rw[e1,Int.tmod_eq_emod_of_nonneg (by omega),Zar (by omega) (by omega)];omega
   have hnr:n≤r.length:=by omega
   have bn:(0:Int)≤IntKind.i64.wrap ((IntKind.i64.wrap ((r.length:Int)-1)).tmod 9+1)∧IntKind.i64.wrap ((IntKind.i64.wrap ((r.length:Int)-1)).tmod 9+1)≤(r.length:Int):=by rw[e2];omega
   have hlt:(r.take n).length=n:=by rw[List.length_take];omega
   have hdt:Dg (r.take n):=fun c hc=>h1 c (List.mem_of_mem_take hc)
   have hdd:Dg (r.drop n):=fun c hc=>h1 c (List.mem_of_mem_drop hc)
   refine And.intro (by decide) ?_
   refine And.intro bn ?_
   have et:List.drop 0 (List.take (IntKind.i64.wrap ((IntKind.i64.wrap ((r.length:Int)-1)).tmod 9+1)).toNat r)=r.take n:=by rw[e2,List.drop_zero,Int.toNat_natCast]
   have hpu:=ZnE (r.take n) hdt (by omega) (by omega)
   rw[←et]at hpu
   refine hpu.mono ?_
   rintro _ rfl
   have hvd:v≤dec ds:=by
    have:v*1≤v*10^r.length:=Nat.mul_le_mul_left _ (Nat.one_le_pow _ _ (by decide))
    omega
   have hlv:ln (v:Int)≤300000:=by
    rw[ln,Int.natAbs_natCast]
    exact Nat.le_trans (Zbe hvd) (Nat.le_trans (Zvf hd) hl)
   have hdl:=ZjA hdt
   have hd9:dec (r.take n)<1000000000:=Nat.lt_of_lt_of_le hdl (Nat.pow_le_pow_right (by decide) (show(r.take n).length≤9 by omega))
   obtain⟨d,ed⟩: ∃d:Nat,dec (List.drop 0 (List.take (IntKind.i64.wrap ((IntKind.i64.wrap ((r.length:Int)-1)).tmod 9+1)).toNat r))=d:=⟨_,rfl⟩
   have ed':dec (r.take n)=d:=by rw[←ed,et]
   have edw:IntKind.i64.wrap ((dec (List.drop 0 (List.take (IntKind.i64.wrap ((IntKind.i64.wrap ((r.length:Int)-1)).tmod 9+1)).toNat r)):Nat):Int)=(d:Int):=by rw[ed];exact Zar (by omega) (by omega)
   refine And.intro rfl ?_
   refine(Zu5 1000000000 (by decide) (by decide)).mono ?_
   rintro _ rfl
   have l9:ln 1000000000≤2:=ZfU (by decide)
   have hmul:=ZlS (v:Int) 1000000000 (by omega) (by omega)
   rw[ZoL v]at hmul
   refine hmul.mono ?_
   rintro _ rfl
   have hof:=Zu5 (d:Int) (by omega) (by omega)
   rw[←edw]at hof
   refine hof.mono ?_
   rintro _ rfl
   rw[edw]
   have ld:ln (d:Int)≤2:=ZfU (by omega)
   have lm:=Zhs (v:Int) 1000000000
   refine(Zts ((v:Int)*1000000000) (d:Int) (by omega) (by omega)).mono ?_
   rintro _ rfl
   refine And.intro rfl ?_
   refine And.intro bn ?_
   have exd:List.drop (IntKind.i64.wrap ((IntKind.i64.wrap ((r.length:Int)-1)).tmod 9+1)).toNat (List.take r.length r)=r.drop n:=by rw[e2,List.take_length,Int.toNat_natCast]
   have hv':((v*1000000000+d:Nat):Int)=(v:Int)*1000000000+d:=by omega
   have c1:false=decide ((v:Int)*1000000000+(d:Int)<0):=(decide_eq_false (by omega)).symm
   have c2:wOf (v*1000000000+d)=wOf ((v:Int)*1000000000+(d:Int)).natAbs:=by rw[←hv',Int.natAbs_natCast]
   refine⟨(r.drop n,v*1000000000+d),⟨hdd,by show(r.drop n).length≤_;rw[List.length_drop];omega, ?_, .inr ?_⟩,by show(r.drop n).length<r.length;rw[List.length_drop];omega, ?_⟩
   ·show dec ds=(v*1000000000+d)*10^(r.drop n).length+dec (r.drop n)
    have hsp:=Zsl r n
    rw[ed']at hsp
    rw[h3]
    have hv9:v*10^r.length=v*1000000000*10^(r.drop n).length:=by
     rcases h4 with h4|h4
     ·rw[h4];simp
     ·have:n=9:=by omega
      rw[List.length_drop,this,Nat.mul_assoc,show 1000000000=10^9 from rfl,←Nat.pow_add,show 9+(r.length-9)=r.length by omega]
    rw[hv9,Nat.add_mul]
    omega
   ·show(r.drop n).length % 9=0
    rw[List.length_drop];omega
   ·refine ZaC rfl rfl ?_ ?_
    ·exact⟨exd.symm,⟨rfl,rfl⟩,rfl,⟨rfl,rfl⟩,trivial⟩
    ·exact⟨⟨⟨rfl,trivial,trivial⟩,fun _=>rfl⟩,⟨⟨c1,c2,trivial⟩,fun _=>rfl⟩,trivial⟩
  ·have hr:r=[]:=by
    cases r with
    |nil=>rfl
    |cons c l=>
     have h': ¬ (0:Int)<((c::l).length:Int):=of_decide_eq_false h
     simp at h'
   subst hr
   have hv:dec ds=v:=by
    rw[h3,ZkC];simp
   have hl0:decide ((0:Int)<((wOf v).length:Int))=decide (0<v):=by
    refine decide_eq_decide.2 ?_
    have:=Zek (n:=v)
    rw[←List.length_eq_zero_iff]at this
    omega
   have fin:SV.agg [.v .b (neg&&decide ((0:Int)<((wOf v).length:Int))),Za8 (wOf v)]=IS (sg neg (dec ds:Nat)):=by
    rw[hv,hl0]
    show _=SV.agg [.v .b (decide (sg neg (v:Int)<0)),Za8 (wOf (sg neg (v:Int)).natAbs)]
    rw[ZrY,Int.natAbs_natCast]
    have:(neg&&decide (0<v))=decide (sg neg (v:Int)<0):=by
     cases neg with
     |true=>
      simp only[Bool.true_and,sg]
      exact decide_eq_decide.2 (by omega)
     |false=>
      simp only[Bool.false_and,sg]
      exact(decide_eq_false (by omega)).symm
    rw[this]
   cases neg with
   |true=>
    refine And.intro (fun _=> ?_) (fun h'=>nomatch h')
    refine And.intro (fun _=> ?_) (fun h'=>nomatch h')
    refine And.intro rfl ?_
    refine And.intro (fun _=> ?_) (fun h'=>nomatch h')
    refine And.intro (fun _=> ?_) (fun h'=>nomatch h')
    refine And.intro (fun _=> ?_) (fun h'=>nomatch h')
    refine⟨rfl,rfl,rfl,rfl,fin⟩
   |false=>
    refine And.intro (fun h'=>nomatch h') (fun _=> ?_)
    refine And.intro (fun h'=>nomatch h') (fun _=> ?_)
    refine And.intro (fun h'=>nomatch h') (fun _=> ?_)
    refine And.intro (fun h'=>nomatch h') (fun _=> ?_)
    refine And.intro (fun h'=>nomatch h') (fun _=> ?_)
    refine⟨rfl,rfl,rfl,rfl,fin⟩
 ·refine⟨hd,Nat.le_refl _,by simp, .inl rfl⟩
 ·refine ZaC rfl rfl ?_ ?_
  ·exact⟨hT.symm,⟨rfl,rfl⟩,hP.symm,⟨rfl,rfl⟩,trivial⟩
  ·exact⟨⟨⟨rfl,trivial,trivial⟩,fun _=>rfl⟩,⟨⟨rfl,Zd7,trivial⟩,fun _=>rfl⟩,trivial⟩
end Go.Proofs.YtkhpbclcfldhmaaGreatDoor
