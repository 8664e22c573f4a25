/-
 The operations of large.Rat on rational numbers.
-/
import Derived.Test.YtdnodlkdndfplaaGreatDoorQ2
set_option linter.constructorNameAsVariable false
set_option linter.unusedSimpArgs false
set_option linter.unusedVariables false
namespace Go.Proofs.YtdnodlkdndfplaaGreatDoor
open Go.Am Go.Tx Dv Go.Lib
set_option maxRecDepth 100000
def szQ (q:Rat) (k:Nat):Prop:=ln q.num≤k∧ln (q.den:Int)≤k
theorem Zjx (p q:Rat):Rat.divInt (p.num*q.den+q.num*p.den) (p.den*q.den)=p+q:=by
 rw[Rat.add_def',←Int.natCast_mul,Rat.divInt_ofNat]
theorem ZjT (p q:Rat):Rat.divInt (p.num*q.num) (p.den*q.den)=p*q:=by
 rw[Rat.mul_def',←Int.natCast_mul,Rat.divInt_ofNat]
theorem ZgR (q:Rat):0<(q.den:Int):=by have:=q.den_pos;omega
theorem Zk2 (v:Int):sg (decide (v<0)) ((v.natAbs:Nat):Int)=v:=by
 by_cases h:v<0
 ·rw[decide_eq_true h];simp only[sg];omega
 ·rw[decide_eq_false h];simp only[sg];omega
set_option maxHeartbeats 4000000 in
theorem ZvG (p q:Rat) {k:Nat} (hk:k≤100000) (hp:szQ p k) (hq:szQ q k):PureOK Tryz.prog Zat 47 [QR p,QR q] (fun V=>V=QR (p+q)):=by
 obtain⟨p1,p2⟩:=hp
 obtain⟨q1,q2⟩:=hq
 have l1:=ZiI p.num q.den
 have l2:=ZiI q.num p.den
 have l3:=ZiI p.den q.den
 have l4:=ZvU (p.num*q.den) (q.num*p.den)
 refine Zak Zal Tryz.func47 ?_
 refine And.intro rfl ?_
 refine And.intro rfl ?_
 refine(ZoJ p.num q.den (by omega) (by omega)).mono ?_
 rintro _ rfl
 refine And.intro rfl ?_
 refine And.intro rfl ?_
 refine(ZoJ q.num p.den (by omega) (by omega)).mono ?_
 rintro _ rfl
 refine(ZsH (p.num*q.den) (q.num*p.den) (by omega) (by omega)).mono ?_
 rintro _ rfl
 refine And.intro rfl ?_
 refine And.intro rfl ?_
 refine(ZoJ p.den q.den (by omega) (by omega)).mono ?_
 rintro _ rfl
 refine(ZpB (p.num*q.den+q.num*p.den) (p.den*q.den) (by have:=Int.mul_pos (ZgR p) (ZgR q);omega) (by omega) (by omega)).mono ?_
 rintro _ rfl
 rw[Zjx]
 refine And.intro rfl ?_
 exact⟨rfl,rfl⟩
set_option maxHeartbeats 4000000 in
theorem Zv7 (p q:Rat) {k:Nat} (hk:k≤100000) (hp:szQ p k) (hq:szQ q k):PureOK Tryz.prog Zat 51 [QR p,QR q] (fun V=>V=QR (p*q)):=by
 obtain⟨p1,p2⟩:=hp
 obtain⟨q1,q2⟩:=hq
 have l1:=ZiI p.num q.num
 have l3:=ZiI p.den q.den
 refine Zak Zal Tryz.func51 ?_
 refine And.intro rfl ?_
 refine And.intro rfl ?_
 refine(ZoJ p.num q.num (by omega) (by omega)).mono ?_
 rintro _ rfl
 refine And.intro rfl ?_
 refine And.intro rfl ?_
 refine(ZoJ p.den q.den (by omega) (by omega)).mono ?_
 rintro _ rfl
 refine(ZpB (p.num*q.num) (p.den*q.den) (by have:=Int.mul_pos (ZgR p) (ZgR q);omega) (by omega) (by omega)).mono ?_
 rintro _ rfl
 rw[ZjT]
 refine And.intro rfl ?_
 exact⟨rfl,rfl⟩
end Go.Proofs.YtdnodlkdndfplaaGreatDoor
/-
 strings.Index, Contains, Cut at a text of one byte.
-/
namespace Go.Proofs.YtdnodlkdndfplaaGreatDoor
open Go.Am Go.Tx Dv Go.Lib
set_option maxRecDepth 100000
theorem Zux (s:List UInt8) (c:UInt8):PureOK Tryz.prog Zat 168 [.v .s s, .v .s [c]] (fun V=>V= .v (.i .i64) (Zbw s c 0)):=by
 refine⟨fun qs hr=> ?_⟩
 simp only[RL,RV,RR,List.cons.injEq,and_true]at hr
 obtain⟨_,_,rfl,rfl,_,_,rfl,rfl,rfl⟩:=hr
 refine⟨.int .i64 (Zbw s c 0),_, ?_, ?_,rfl⟩
 ·show(indexG [.str ⟨s.toArray⟩, .str ⟨[c].toArray⟩]).bind (fun v=>exp ZaC [] v)=_
  rfl
 ·simp only[RV,RR]
theorem Zt5 (s:List UInt8) (c:UInt8): -1≤Zbw s c 0∧Zbw s c 0<s.length:=by
 have h: ∀ (l:List UInt8) (i:Nat),-1≤Zbw l c i∧Zbw l c i<i+l.length∨Zbw l c i= -1:=by
  intro l
  induction l with
  |nil=>intro i;right;rfl
  |cons b l ih=>
   intro i
   rw[Zbw]
   cases Nat.beq b.toNat c.toNat with
   |true=>left;simp only[List.length_cons];omega
   |false=>
    simp only
    rcases ih (i+1)with h|h
    ·left;simp only[List.length_cons];omega
    ·right;exact h
 rcases h s 0 with h|h<;>omega
theorem ZvJ (s:List UInt8) (c:UInt8) (hl:s.length≤9223372036854775806):PureOK Tryz.prog Zat 146 [.v .s s, .v .s [c]] (fun V=>V= .tup [.v .s (ZcJ s c).1, .v .s (ZcJ s c).2.1, .v .b (ZcJ s c).2.2]):=by
 refine Zak Zal Tryz.func146 ?_
 have hi:=Zt5 s c
 refine(Zux s c).mono ?_
 rintro _ rfl
 obtain⟨k,hk⟩: ∃k,Zbw s c 0=k:=⟨_,rfl⟩
 have hcut:ZcJ s c=match decide (0≤k)with|true=>(s.take k.toNat,s.drop (k.toNat+1),true)|false=>(s,[],false):=by rw[←hk];rfl
 rw[hk]at hi⊢
 refine And.intro (fun h=> ?_) (fun h=> ?_)
 ·have h':decide (0≤k)=true:=h
  have h0:0≤k:=of_decide_eq_true h'
  have e1:IntKind.i64.wrap (k+1)=k+1:=Zan (by omega) (by omega)
  refine And.intro (show 0≤k∧k≤(s.length:Int)from⟨h0,by omega⟩) ?_
  refine And.intro (by show 0≤IntKind.i64.wrap (k+1)∧IntKind.i64.wrap (k+1)≤(s.length:Int);rw[e1];omega) ?_
  have e2:List.drop (IntKind.i64.wrap (k+1)).toNat (List.take s.length s)=s.drop (k.toNat+1):=by
   rw[e1,List.take_length,show(k+1).toNat=k.toNat+1 by omega]
  show SV.tup [.v .s (List.drop 0 (List.take k.toNat s)), .v .s (List.drop (IntKind.i64.wrap (k+1)).toNat (List.take s.length s)), .v .b true]=_
  rw[e2,hcut,h']
  rfl
 ·have h':decide (0≤k)=false:=h
  rw[hcut,h']
  rfl
theorem ZvF (s:List UInt8) (c:UInt8) (hl:s.length≤9223372036854775806):PureOK Tryz.prog Zat 106 [.v .s s, .v .s [c]] (fun V=>V= .tup [.v .s (ZcJ s c).1, .v .s (ZcJ s c).2.1, .v .b (ZcJ s c).2.2]):=by
 refine Zak Zal Tryz.func106 ?_
 refine(ZvJ s c hl).mono ?_
 rintro _ rfl
 rfl
end Go.Proofs.YtdnodlkdndfplaaGreatDoor
/-
 large.Read: the number of a text.
-/
namespace Go.Proofs.YtdnodlkdndfplaaGreatDoor
open Go.Am Go.Tx Dv
set_option maxRecDepth 100000
theorem ZoH (ds:List UInt8):ZlC (45::ds) [45]=true:=by simp[ZlC];omega
theorem ZlZ {ds:List UInt8} (h:Dg ds):ZlC ds [45]=false:=by
 cases ds with
 |nil=>rfl
 |cons c r=>
  have h1:=h c List.mem_cons_self
  have h2:c≠45:=by rintro rfl;exact absurd h1.1 (by decide)
  simp[ZlC,h2]
theorem ZtU {s:List UInt8} (h:Dg s):(wOf (dec s)).length≤s.length:=by
 rw[ZbW]
 exact Nat.lt_of_lt_of_le (Zbl h) (Nat.pow_le_pow_left (by decide) _)
theorem Zqt (s:List UInt8) (n:Nat):dec s=dec (s.take n)*10^(s.drop n).length+dec (s.drop n):=by
 conv=>lhs;rw[←List.take_append_drop n s]
 exact Zjg _ _
def ZrI (neg:Bool) (ds:List UInt8):List UInt8:=match neg with|true=>45::ds|false=>ds
def Zxd (neg:Bool) (t:List UInt8×Nat):TM:=[(0, .v .s t.1),(2, .ptr 0 0 0),(3, .v .b neg),(4, .ptr 1 0 0)]
def Zxi (t:List UInt8×Nat):List SM:=[.cell [.v .b false, .nils] true, .cell [.v .b false,ZaX (wOf t.2)] true]
set_option maxHeartbeats 8000000 in
theorem ZqN (neg:Bool) (ds:List UInt8) (hd:Dg ds) (hl:ds.length≤300000):PureOK Tryz.prog Zat 109 [.v .s (ZrI neg ds)] (fun V=>V=IS (sg neg (dec ds:Nat))):=by
 obtain⟨s,hs⟩: ∃s,ZrI neg ds=s:=⟨_,rfl⟩
 have hP:ZlC s [45]=neg:=by cases neg<;>subst hs<;>first|exact ZoH ds|exact ZlZ hd
 have hT:(match ZlC s [45]with|true=>s.drop [(45:UInt8)].length|false=>s)=ds:=by rw[hP];cases neg<;>subst hs<;>rfl
 rw[hs]
 refine Zak Zal Tryz.func109 ?_
 refine(Zl8 s [45]).mono ?_
 rintro _ rfl
 refine(Zge s [45]).mono ?_
 rintro _ rfl
 refine And.intro rfl ?_
 refine Zaw Zal rfl (Zxd neg) Zxi (fun t=>Dg t.1∧t.1.length≤ds.length∧dec ds=t.2*10^t.1.length+dec t.1∧(t.2=0∨t.1.length % 9=0)) (fun t=>t.1.length) ?_ (ds,0) ?_ ?_
 ·rintro⟨r,v⟩ ⟨h1,h2,h3,h4⟩
  simp only at h1 h2 h3 h4
  refine And.intro (fun h=> ?_) (fun h=> ?_)
  ·have hr:1≤r.length:=by have h':(0:Int)<(r.length:Int):=of_decide_eq_true h;omega
   obtain⟨n,hn⟩: ∃n,n=(r.length-1) % 9+1:=⟨_,rfl⟩
   have e1:IntKind.i64.wrap ((r.length:Int)-1)=((r.length-1:Nat):Int):=by rw[Zan (by omega) (by omega)];omega
   have e2:IntKind.i64.wrap ((IntKind.i64.wrap ((r.length:Int)-1)).tmod 9+1)=(n:Int):=by
    rw[e1,Int.tmod_eq_emod_of_nonneg (by omega),Zan (by omega) (by omega)];omega
   have hnr:n≤r.length:=by omega
   have bn:(0:Int)≤IntKind.i64.wrap ((IntKind.i64.wrap ((r.length:Int)-1)).tmod 9+1)∧IntKind.i64.wrap ((IntKind.i64.wrap ((r.length:Int)-1)).tmod 9+1)≤(r.length:Int):=by rw[e2];omega
   have hlt:(r.take n).length=n:=by rw[List.length_take];omega
   have hdt:Dg (r.take n):=fun c hc=>h1 c (List.mem_of_mem_take hc)
   have hdd:Dg (r.drop n):=fun c hc=>h1 c (List.mem_of_mem_drop hc)
   refine And.intro (by decide) ?_
   refine And.intro bn ?_
   have et:List.drop 0 (List.take (IntKind.i64.wrap ((IntKind.i64.wrap ((r.length:Int)-1)).tmod 9+1)).toNat r)=r.take n:=by rw[e2,List.drop_zero,Int.toNat_natCast]
   have hpu:=Zmm (r.take n) hdt (by omega) (by omega)
   rw[←et]at hpu
   refine hpu.mono ?_
   rintro _ rfl
   have hvd:v≤dec ds:=by
    have:v*1≤v*10^r.length:=Nat.mul_le_mul_left _ (Nat.one_le_pow _ _ (by decide))
    omega
   have hlv:ln (v:Int)≤300000:=by
    rw[ln,Int.natAbs_natCast]
    exact Nat.le_trans (Za7 hvd) (Nat.le_trans (ZtU hd) hl)
   have hdl:=Zbl hdt
   have hd9:dec (r.take n)<1000000000:=Nat.lt_of_lt_of_le hdl (Nat.pow_le_pow_right (by decide) (show(r.take n).length≤9 by omega))
   obtain⟨d,ed⟩: ∃d:Nat,dec (List.drop 0 (List.take (IntKind.i64.wrap ((IntKind.i64.wrap ((r.length:Int)-1)).tmod 9+1)).toNat r))=d:=⟨_,rfl⟩
   have ed':dec (r.take n)=d:=by rw[←ed,et]
   have edw:IntKind.i64.wrap ((dec (List.drop 0 (List.take (IntKind.i64.wrap ((IntKind.i64.wrap ((r.length:Int)-1)).tmod 9+1)).toNat r)):Nat):Int)=(d:Int):=by rw[ed];exact Zan (by omega) (by omega)
   refine And.intro rfl ?_
   refine(ZwL 1000000000 (by decide) (by decide)).mono ?_
   rintro _ rfl
   have l9:ln 1000000000≤2:=Zj5 (by decide)
   have hmul:=ZoJ (v:Int) 1000000000 (by omega) (by omega)
   rw[ZnA v]at hmul
   refine hmul.mono ?_
   rintro _ rfl
   have hof:=ZwL (d:Int) (by omega) (by omega)
   rw[←edw]at hof
   refine hof.mono ?_
   rintro _ rfl
   rw[edw]
   have ld:ln (d:Int)≤2:=Zj5 (by omega)
   have lm:=ZiI (v:Int) 1000000000
   refine(ZsH ((v:Int)*1000000000) (d:Int) (by omega) (by omega)).mono ?_
   rintro _ rfl
   refine And.intro rfl ?_
   refine And.intro bn ?_
   have exd:List.drop (IntKind.i64.wrap ((IntKind.i64.wrap ((r.length:Int)-1)).tmod 9+1)).toNat (List.take r.length r)=r.drop n:=by rw[e2,List.take_length,Int.toNat_natCast]
   have hv':((v*1000000000+d:Nat):Int)=(v:Int)*1000000000+d:=by omega
   have c1:false=decide ((v:Int)*1000000000+(d:Int)<0):=(decide_eq_false (by omega)).symm
   have c2:wOf (v*1000000000+d)=wOf ((v:Int)*1000000000+(d:Int)).natAbs:=by rw[←hv',Int.natAbs_natCast]
   refine⟨(r.drop n,v*1000000000+d),⟨hdd,by show(r.drop n).length≤_;rw[List.length_drop];omega, ?_, .inr ?_⟩,by show(r.drop n).length<r.length;rw[List.length_drop];omega, ?_⟩
   ·show dec ds=(v*1000000000+d)*10^(r.drop n).length+dec (r.drop n)
    have hsp:=Zqt r n
    rw[ed']at hsp
    rw[h3]
    have hv9:v*10^r.length=v*1000000000*10^(r.drop n).length:=by
     rcases h4 with h4|h4
     ·rw[h4];simp
     ·have:n=9:=by omega
      rw[List.length_drop,this,Nat.mul_assoc,show 1000000000=10^9 from rfl,←Nat.pow_add,show 9+(r.length-9)=r.length by omega]
    rw[hv9,Nat.add_mul]
    omega
   ·show(r.drop n).length % 9=0
    rw[List.length_drop];omega
   ·refine Zap rfl rfl ?_ ?_
    ·exact⟨exd.symm,⟨rfl,rfl⟩,rfl,⟨rfl,rfl⟩,trivial⟩
    ·exact⟨⟨⟨rfl,trivial,trivial⟩,fun _=>rfl⟩,⟨⟨c1,c2,trivial⟩,fun _=>rfl⟩,trivial⟩
  ·have hr:r=[]:=by
    cases r with
    |nil=>rfl
    |cons c l=>
     have h': ¬ (0:Int)<((c::l).length:Int):=of_decide_eq_false h
     simp at h'
   subst hr
   have hv:dec ds=v:=by
    rw[h3,ZjU];simp
   have hl0:decide ((0:Int)<((wOf v).length:Int))=decide (0<v):=by
    refine decide_eq_decide.2 ?_
    have:=Zd4 (n:=v)
    rw[←List.length_eq_zero_iff]at this
    omega
   have fin:SV.agg [.v .b (neg&&decide ((0:Int)<((wOf v).length:Int))),ZaX (wOf v)]=IS (sg neg (dec ds:Nat)):=by
    rw[hv,hl0]
    show _=SV.agg [.v .b (decide (sg neg (v:Int)<0)),ZaX (wOf (sg neg (v:Int)).natAbs)]
    rw[Zkl,Int.natAbs_natCast]
    have:(neg&&decide (0<v))=decide (sg neg (v:Int)<0):=by
     cases neg with
     |true=>
      simp only[Bool.true_and,sg]
      exact decide_eq_decide.2 (by omega)
     |false=>
      simp only[Bool.false_and,sg]
      exact(decide_eq_false (by omega)).symm
    rw[this]
   cases neg with
   |true=>
    refine And.intro (fun _=> ?_) (fun h'=>nomatch h')
    refine And.intro (fun _=> ?_) (fun h'=>nomatch h')
    refine And.intro rfl ?_
    refine And.intro (fun _=> ?_) (fun h'=>nomatch h')
    refine And.intro (fun _=> ?_) (fun h'=>nomatch h')
    refine And.intro (fun _=> ?_) (fun h'=>nomatch h')
    refine⟨rfl,rfl,rfl,rfl,fin⟩
   |false=>
    refine And.intro (fun h'=>nomatch h') (fun _=> ?_)
    refine And.intro (fun h'=>nomatch h') (fun _=> ?_)
    refine And.intro (fun h'=>nomatch h') (fun _=> ?_)
    refine And.intro (fun h'=>nomatch h') (fun _=> ?_)
    refine And.intro (fun h'=>nomatch h') (fun _=> ?_)
    refine⟨rfl,rfl,rfl,rfl,fin⟩
 ·refine⟨hd,Nat.le_refl _,by simp, .inl rfl⟩
 ·refine Zap rfl rfl ?_ ?_
  ·exact⟨hT.symm,⟨rfl,rfl⟩,hP.symm,⟨rfl,rfl⟩,trivial⟩
  ·exact⟨⟨⟨rfl,trivial,trivial⟩,fun _=>rfl⟩,⟨⟨rfl,Zdt,trivial⟩,fun _=>rfl⟩,trivial⟩
end Go.Proofs.YtdnodlkdndfplaaGreatDoor
