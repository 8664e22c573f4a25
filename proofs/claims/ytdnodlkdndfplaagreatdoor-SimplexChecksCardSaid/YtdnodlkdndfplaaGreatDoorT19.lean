/-
 large.Read: the number of a text.
-/
import Derived.Test.YtdnodlkdndfplaaGreatDoorT17
set_option linter.constructorNameAsVariable false
set_option linter.unusedSimpArgs false
set_option linter.unusedVariables false
namespace Go.Proofs.YtdnodlkdndfplaaGreatDoor
open Go.Am Go.Tx Dv
set_option maxRecDepth 100000
theorem ZmP (ds:List UInt8):Zki (45::ds) [45]=true:=by simp[Zki];omega
theorem ZkY {ds:List UInt8} (h:Dg ds):Zki ds [45]=false:=by
 cases ds with
 |nil=>rfl
 |cons c r=>
  have h1:=h c List.mem_cons_self
  have h2:c≠45:=by rintro rfl;exact absurd h1.1 (by decide)
  simp[Zki,h2]
theorem Zq3 {s:List UInt8} (h:Dg s):(wOf (dec s)).length≤s.length:=by
 rw[Zda]
 exact Nat.lt_of_lt_of_le (ZbK h) (Nat.pow_le_pow_left (by decide) _)
theorem Zo5 (s:List UInt8) (n:Nat):dec s=dec (s.take n)*10^(s.drop n).length+dec (s.drop n):=by
 conv=>lhs;rw[←List.take_append_drop n s]
 exact ZiS _ _
def Zre (neg:Bool) (ds:List UInt8):List UInt8:=match neg with|true=>45::ds|false=>ds
def Zua (neg:Bool) (t:List UInt8×Nat):TM:=[(0, .v .s t.1),(2, .ptr 0 0 0),(3, .v .b neg),(4, .ptr 1 0 0)]
def Zuk (t:List UInt8×Nat):List SM:=[.cell [.v .b false, .nils] true, .cell [.v .b false,ZaX (wOf t.2)] true]
set_option maxHeartbeats 8000000 in
theorem Zq9 (neg:Bool) (ds:List UInt8) (hd:Dg ds) (hl:ds.length≤300000):PureOK Tryz.prog Zau 109 [.v .s (Zre neg ds)] (fun V=>V=IS (sg neg (dec ds:Nat))):=by
 obtain⟨s,hs⟩: ∃s,Zre neg ds=s:=⟨_,rfl⟩
 have hP:Zki s [45]=neg:=by cases neg<;>subst hs<;>first|exact ZmP ds|exact ZkY hd
 have hT:(match Zki s [45]with|true=>s.drop [(45:UInt8)].length|false=>s)=ds:=by rw[hP];cases neg<;>subst hs<;>rfl
 rw[hs]
 refine Zaj Zao Tryz.func109 ?_
 refine(Zk6 s [45]).mono ?_
 rintro _ rfl
 refine(Zf1 s [45]).mono ?_
 rintro _ rfl
 refine And.intro rfl ?_
 refine ZaC Zao rfl (Zua neg) Zuk (fun t=>Dg t.1∧t.1.length≤ds.length∧dec ds=t.2*10^t.1.length+dec t.1∧(t.2=0∨t.1.length % 9=0)) (fun t=>t.1.length) ?_ (ds,0) ?_ ?_
 ·rintro⟨r,v⟩ ⟨h1,h2,h3,h4⟩
  simp only at h1 h2 h3 h4
  refine And.intro (fun h=> ?_) (fun h=> ?_)
  ·have hr:1≤r.length:=by have h':(0:Int)<(r.length:Int):=of_decide_eq_true h;omega
   obtain⟨n,hn⟩: ∃n,n=(r.length-1) % 9+1:=⟨_,rfl⟩
   have e1:IntKind.i64.wrap ((r.length:Int)-1)=((r.length-1:Nat):Int):=by rw[Zan (by omega) (by omega)];omega
   have e2:IntKind.i64.wrap ((IntKind.i64.wrap ((r.length:Int)-1)).tmod 9+1)=(n:Int):=by
    rw[e1,Int.tmod_eq_emod_of_nonneg (by omega),Zan (by omega) (by omega)];omega
   have hnr:n≤r.length:=by omega
   have bn:(0:Int)≤IntKind.i64.wrap ((IntKind.i64.wrap ((r.length:Int)-1)).tmod 9+1)∧IntKind.i64.wrap ((IntKind.i64.wrap ((r.length:Int)-1)).tmod 9+1)≤(r.length:Int):=by rw[e2];omega
   have hlt:(r.take n).length=n:=by rw[List.length_take];omega
   have hdt:Dg (r.take n):=fun c hc=>h1 c (List.mem_of_mem_take hc)
   have hdd:Dg (r.drop n):=fun c hc=>h1 c (List.mem_of_mem_drop hc)
   refine And.intro (by decide) ?_
   refine And.intro bn ?_
   have et:List.drop 0 (List.take (IntKind.i64.wrap ((IntKind.i64.wrap ((r.length:Int)-1)).tmod 9+1)).toNat r)=r.take n:=by rw[e2,List.drop_zero,Int.toNat_natCast]
   have hpu:=ZkD (r.take n) hdt (by omega) (by omega)
   rw[←et]at hpu
   refine hpu.mono ?_
   rintro _ rfl
   have hvd:v≤dec ds:=by
    have:v*1≤v*10^r.length:=Nat.mul_le_mul_left _ (Nat.one_le_pow _ _ (by decide))
    omega
   have hlv:ln (v:Int)≤300000:=by
    rw[ln,Int.natAbs_natCast]
    exact Nat.le_trans (Za6 hvd) (Nat.le_trans (Zq3 hd) hl)
   have hdl:=ZbK hdt
   have hd9:dec (r.take n)<1000000000:=Nat.lt_of_lt_of_le hdl (Nat.pow_le_pow_right (by decide) (show(r.take n).length≤9 by omega))
   obtain⟨d,ed⟩: ∃d:Nat,dec (List.drop 0 (List.take (IntKind.i64.wrap ((IntKind.i64.wrap ((r.length:Int)-1)).tmod 9+1)).toNat r))=d:=⟨_,rfl⟩
   have ed':dec (r.take n)=d:=by rw[←ed,et]
   have edw:IntKind.i64.wrap ((dec (List.drop 0 (List.take (IntKind.i64.wrap ((IntKind.i64.wrap ((r.length:Int)-1)).tmod 9+1)).toNat r)):Nat):Int)=(d:Int):=by rw[ed];exact Zan (by omega) (by omega)
   refine And.intro rfl ?_
   refine(Zuq 1000000000 (by decide) (by decide)).mono ?_
   rintro _ rfl
   have l9:ln 1000000000≤2:=ZlF (by decide)
   have hmul:=ZtV (v:Int) 1000000000 (by omega) (by omega)
   rw[ZnV v]at hmul
   refine hmul.mono ?_
   rintro _ rfl
   have hof:=Zuq (d:Int) (by omega) (by omega)
   rw[←edw]at hof
   refine hof.mono ?_
   rintro _ rfl
   rw[edw]
   have ld:ln (d:Int)≤2:=ZlF (by omega)
   have lm:=Zty (v:Int) 1000000000
   refine(Zui ((v:Int)*1000000000) (d:Int) (by omega) (by omega)).mono ?_
   rintro _ rfl
   refine And.intro rfl ?_
   refine And.intro bn ?_
   have exd:List.drop (IntKind.i64.wrap ((IntKind.i64.wrap ((r.length:Int)-1)).tmod 9+1)).toNat (List.take r.length r)=r.drop n:=by rw[e2,List.take_length,Int.toNat_natCast]
   have hv':((v*1000000000+d:Nat):Int)=(v:Int)*1000000000+d:=by omega
   have c1:false=decide ((v:Int)*1000000000+(d:Int)<0):=(decide_eq_false (by omega)).symm
   have c2:wOf (v*1000000000+d)=wOf ((v:Int)*1000000000+(d:Int)).natAbs:=by rw[←hv',Int.natAbs_natCast]
   refine⟨(r.drop n,v*1000000000+d),⟨hdd,by show(r.drop n).length≤_;rw[List.length_drop];omega, ?_, .inr ?_⟩,by show(r.drop n).length<r.length;rw[List.length_drop];omega, ?_⟩
   ·show dec ds=(v*1000000000+d)*10^(r.drop n).length+dec (r.drop n)
    have hsp:=Zo5 r n
    rw[ed']at hsp
    rw[h3]
    have hv9:v*10^r.length=v*1000000000*10^(r.drop n).length:=by
     rcases h4 with h4|h4
     ·rw[h4];simp
     ·have:n=9:=by omega
      rw[List.length_drop,this,Nat.mul_assoc,show 1000000000=10^9 from rfl,←Nat.pow_add,show 9+(r.length-9)=r.length by omega]
    rw[hv9,Nat.add_mul]
    omega
   ·show(r.drop n).length % 9=0
    rw[List.length_drop];omega
   ·refine Zaq rfl rfl ?_ ?_
    ·exact⟨exd.symm,⟨rfl,rfl⟩,rfl,⟨rfl,rfl⟩,trivial⟩
    ·exact⟨⟨⟨rfl,trivial,trivial⟩,fun _=>rfl⟩,⟨⟨c1,c2,trivial⟩,fun _=>rfl⟩,trivial⟩
  ·have hr:r=[]:=by
    cases r with
    |nil=>rfl
    |cons c l=>
     have h': ¬ (0:Int)<((c::l).length:Int):=of_decide_eq_false h
     simp at h'
   subst hr
   have hv:dec ds=v:=by
    rw[h3,ZiG];simp
   have hl0:decide ((0:Int)<((wOf v).length:Int))=decide (0<v):=by
    refine decide_eq_decide.2 ?_
    have:=Zd7 (n:=v)
    rw[←List.length_eq_zero_iff]at this
    omega
   have fin:SV.agg [.v .b (neg&&decide ((0:Int)<((wOf v).length:Int))),ZaX (wOf v)]=IS (sg neg (dec ds:Nat)):=by
    rw[hv,hl0]
    show _=SV.agg [.v .b (decide (sg neg (v:Int)<0)),ZaX (wOf (sg neg (v:Int)).natAbs)]
    rw[ZsF,Int.natAbs_natCast]
    have:(neg&&decide (0<v))=decide (sg neg (v:Int)<0):=by
     cases neg with
     |true=>
      simp only[Bool.true_and,sg]
      exact decide_eq_decide.2 (by omega)
     |false=>
      simp only[Bool.false_and,sg]
      exact(decide_eq_false (by omega)).symm
    rw[this]
   cases neg with
   |true=>
    refine And.intro (fun _=> ?_) (fun h'=>nomatch h')
    refine And.intro (fun _=> ?_) (fun h'=>nomatch h')
    refine And.intro rfl ?_
    refine And.intro (fun _=> ?_) (fun h'=>nomatch h')
    refine And.intro (fun _=> ?_) (fun h'=>nomatch h')
    refine And.intro (fun _=> ?_) (fun h'=>nomatch h')
    refine⟨rfl,rfl,rfl,rfl,fin⟩
   |false=>
    refine And.intro (fun h'=>nomatch h') (fun _=> ?_)
    refine And.intro (fun h'=>nomatch h') (fun _=> ?_)
    refine And.intro (fun h'=>nomatch h') (fun _=> ?_)
    refine And.intro (fun h'=>nomatch h') (fun _=> ?_)
    refine And.intro (fun h'=>nomatch h') (fun _=> ?_)
    refine⟨rfl,rfl,rfl,rfl,fin⟩
 ·refine⟨hd,Nat.le_refl _,by simp, .inl rfl⟩
 ·refine Zaq rfl rfl ?_ ?_
  ·exact⟨hT.symm,⟨rfl,rfl⟩,hP.symm,⟨rfl,rfl⟩,trivial⟩
  ·exact⟨⟨⟨rfl,trivial,trivial⟩,fun _=>rfl⟩,⟨⟨rfl,Zc5,trivial⟩,fun _=>rfl⟩,trivial⟩
end Go.Proofs.YtdnodlkdndfplaaGreatDoor
