/-
 The reference: NatAdd, NatSub.
-/
import Derived.Test.YtdnodlkdndfplaaGreatDoorR1
set_option linter.constructorNameAsVariable false
set_option linter.unusedSimpArgs false
set_option linter.unusedVariables false
namespace Go.Proofs.YtdnodlkdndfplaaGreatDoor
open Go.Am Go.Tx Dv Go.Lib
set_option maxRecDepth 100000
def ZBj (a b:List UInt8) (t:Nat×Int×List Int):TM:=[(0, .v .s a),(1, .v .s b),(5, .ref 0 0 t.2.2.length none),(6, .v (.i .i64) t.2.1),(7, .v (.i .i64) (t.1:Int))]
set_option maxHeartbeats 8000000 in
theorem ZvE (a b:List UInt8) (hda:Dg a) (hdb:Dg b) (hla:a.length≤900000) (hlb:b.length≤900000):PureOK Tryz.prog Zan 60 [.v .s a, .v .s b] (fun V=>V= .v .s (decDigits (dec a+dec b))):=by
 refine Zac Zaa Tryz.func60 ?_
 refine Zat Zaa rfl (ZBj a b) (fun t=> [.row (.i .i64) t.2.2 true])
  (fun t=>t.1≤max a.length b.length+1∧0≤t.2.1∧t.2.1≤1∧D9 t.2.2∧t.2.2.length=t.1∧(t.1=max a.length b.length+1→t.2.1=0)∧dv t.2.2+10^t.1*t.2.1=((dec a % 10^t.1+dec b % 10^t.1:Nat):Int)) (fun t=>max a.length b.length+2-t.1) ?_ (0,0,[]) ?_ ?_
 ·rintro⟨k,c,out⟩ ⟨hk,hc0,hc1,h9,ho,hk1,hval⟩
  simp only at hk hc0 hc1 h9 ho hk1 hval
  refine ZaA (ZaA (ZaI rfl ?_))
  iterate 5 refine Zad ?_
  cases h1:decide ((k:Int)<(a.length:Int))with
  |true=>
   have h1':(k:Int)<(a.length:Int):=of_decide_eq_true h1
   iterate 4 refine ZaL rfl ?_
   refine ZaY rfl ?_
   refine Zad ?_
   iterate 2 refine ZaL rfl ?_
   refine ZaY rfl ?_
   refine Za0 ?_
   refine brT rfl ?_
   refine(Zdv a k hda (by omega) (by omega)).mono ?_
   rintro _ rfl
   refine(Zdv b k hdb (by omega) (by omega)).mono ?_
   rintro _ rfl
   obtain⟨da,eda⟩: ∃d:Nat,dec a/10^k % 10=d:=⟨_,rfl⟩
   obtain⟨db,edb⟩: ∃d:Nat,dec b/10^k % 10=d:=⟨_,rfl⟩
   have hma:=Zcp (dec a) k
   have hmb:=Zcp (dec b) k
   rw[eda]at hma
   rw[edb]at hmb
   rw[eda,edb]
   have la9:da<10:=by rw[←eda];exact Nat.mod_lt _ (by decide)
   have lb9:db<10:=by rw[←edb];exact Nat.mod_lt _ (by decide)
   have ev:IntKind.i64.wrap (IntKind.i64.wrap ((da:Int)+(db:Int))+c)=(da:Int)+db+c:=by rw[Zah (x:=(da:Int)+(db:Int)) (by omega) (by omega),Zah (by omega) (by omega)]
   obtain⟨v,hv⟩: ∃v:Int,v=(da:Int)+db+c:=⟨_,rfl⟩
   rw[←hv]at ev
   have e1:(IntKind.i64.wrap (IntKind.i64.wrap ((da:Int)+(db:Int))+c)).tmod 10=v % 10:=by rw[ev,Int.tmod_eq_emod_of_nonneg (by omega)]
   have e2:IntKind.i64.wrap ((IntKind.i64.wrap (IntKind.i64.wrap ((da:Int)+(db:Int))+c)).tdiv 10)=v/10:=by rw[ev,Int.tdiv_eq_ediv_of_nonneg (by omega),Zah (by omega) (by omega)]
   refine And.intro (by decide) ?_
   refine And.intro (by show 0+1≤1;decide) ?_
   refine And.intro (by show 0+out.length≤out.length;omega) ?_
   refine And.intro (by show(out.length+(0+1))*8≤_;omega) ?_
   refine And.intro (by decide) ?_
   have es:out++ [v % 10]=sub out 0 out.length++ [(IntKind.i64.wrap (IntKind.i64.wrap ((da:Int)+(db:Int))+c)).tmod 10]:=by rw[e1,sub,List.drop_zero,List.take_length]
   have wi:IntKind.i64.wrap ((k:Int)+1)=((k+1:Nat):Int):=Zah (by omega) (by omega)
   refine⟨(k+1,v/10,out++ [v % 10]),⟨?_,by show 0≤v/10;omega,by show v/10≤1;omega, ?_,by show(out++ [v % 10]).length=k+1;simp[ho], ?_, ?_⟩,by show max a.length b.length+2-(k+1)<max a.length b.length+2-k;omega, ?_⟩
   ·show k+1≤max a.length b.length+1
    rcases Nat.lt_or_ge k (max a.length b.length+1)with h|h
    ·omega
    ·have:=hk1 (by omega)
     omega
   ·intro d hd
    rcases List.mem_append.1 hd with hd|hd
    ·exact h9 d hd
    ·rw[List.mem_singleton.1 hd];omega
   ·intro hk2
    have hk2:k+1=max a.length b.length+1:=hk2
    have z1:=Zbm hda (show a.length≤k by omega)
    have z2:=Zbm hdb (show b.length≤k by omega)
    show v/10=0
    omega
   ·show dv (out++ [v % 10])+10^(k+1)*(v/10)=_
    rw[ZjL,ho,Int.pow_succ,hma,hmb]
    have e3:=Int.emod_add_mul_ediv v 10
    have e4:(10:Int)^k*(v % 10)+10^k*10*(v/10)=10^k*v:=by rw[Int.mul_assoc,←Int.mul_add,e3]
    rw[Int.add_assoc,e4,hv]
    rw[Int.natCast_add,Int.natCast_add,Int.natCast_add,Int.natCast_mul,Int.natCast_mul,Int.natCast_pow]
    rw[Int.natCast_add]at hval
    have e10:((10:Nat):Int)=10:=rfl
    rw[e10]
    generalize(10:Int)^k=p at*
    grind
   ·refine Zal rfl rfl ?_ ?_
    ·exact⟨rfl,rfl,⟨rfl,(by simp:(out++ [v % 10]).length=out.length+1),(by simp:(out++ [v % 10]).length=out.length+1)⟩,e2.symm,wi.symm,trivial⟩
    ·exact⟨⟨es,fun _=>rfl⟩,trivial⟩
  |false=>
   have h1': ¬ (k:Int)<(a.length:Int):=of_decide_eq_false h1
   iterate 4 refine Zae rfl ?_
   refine ZaW rfl ?_
   refine Zad ?_
   cases h2:decide ((k:Int)<(b.length:Int))with
   |true=>
    have h2':(k:Int)<(b.length:Int):=of_decide_eq_true h2
    iterate 2 refine ZaL rfl ?_
    refine ZaY rfl ?_
    refine Za0 ?_
    refine brT rfl ?_
    refine(Zdv a k hda (by omega) (by omega)).mono ?_
    rintro _ rfl
    refine(Zdv b k hdb (by omega) (by omega)).mono ?_
    rintro _ rfl
    obtain⟨da,eda⟩: ∃d:Nat,dec a/10^k % 10=d:=⟨_,rfl⟩
    obtain⟨db,edb⟩: ∃d:Nat,dec b/10^k % 10=d:=⟨_,rfl⟩
    have hma:=Zcp (dec a) k
    have hmb:=Zcp (dec b) k
    rw[eda]at hma
    rw[edb]at hmb
    rw[eda,edb]
    have la9:da<10:=by rw[←eda];exact Nat.mod_lt _ (by decide)
    have lb9:db<10:=by rw[←edb];exact Nat.mod_lt _ (by decide)
    have ev:IntKind.i64.wrap (IntKind.i64.wrap ((da:Int)+(db:Int))+c)=(da:Int)+db+c:=by rw[Zah (x:=(da:Int)+(db:Int)) (by omega) (by omega),Zah (by omega) (by omega)]
    obtain⟨v,hv⟩: ∃v:Int,v=(da:Int)+db+c:=⟨_,rfl⟩
    rw[←hv]at ev
    have e1:(IntKind.i64.wrap (IntKind.i64.wrap ((da:Int)+(db:Int))+c)).tmod 10=v % 10:=by rw[ev,Int.tmod_eq_emod_of_nonneg (by omega)]
    have e2:IntKind.i64.wrap ((IntKind.i64.wrap (IntKind.i64.wrap ((da:Int)+(db:Int))+c)).tdiv 10)=v/10:=by rw[ev,Int.tdiv_eq_ediv_of_nonneg (by omega),Zah (by omega) (by omega)]
    refine And.intro (by decide) ?_
    refine And.intro (by show 0+1≤1;decide) ?_
    refine And.intro (by show 0+out.length≤out.length;omega) ?_
    refine And.intro (by show(out.length+(0+1))*8≤_;omega) ?_
    refine And.intro (by decide) ?_
    have es:out++ [v % 10]=sub out 0 out.length++ [(IntKind.i64.wrap (IntKind.i64.wrap ((da:Int)+(db:Int))+c)).tmod 10]:=by rw[e1,sub,List.drop_zero,List.take_length]
    have wi:IntKind.i64.wrap ((k:Int)+1)=((k+1:Nat):Int):=Zah (by omega) (by omega)
    refine⟨(k+1,v/10,out++ [v % 10]),⟨?_,by show 0≤v/10;omega,by show v/10≤1;omega, ?_,by show(out++ [v % 10]).length=k+1;simp[ho], ?_, ?_⟩,by show max a.length b.length+2-(k+1)<max a.length b.length+2-k;omega, ?_⟩
    ·show k+1≤max a.length b.length+1
     rcases Nat.lt_or_ge k (max a.length b.length+1)with h|h
     ·omega
     ·have:=hk1 (by omega)
      omega
    ·intro d hd
     rcases List.mem_append.1 hd with hd|hd
     ·exact h9 d hd
     ·rw[List.mem_singleton.1 hd];omega
    ·intro hk2
     have hk2:k+1=max a.length b.length+1:=hk2
     have z1:=Zbm hda (show a.length≤k by omega)
     have z2:=Zbm hdb (show b.length≤k by omega)
     show v/10=0
     omega
    ·show dv (out++ [v % 10])+10^(k+1)*(v/10)=_
     rw[ZjL,ho,Int.pow_succ,hma,hmb]
     have e3:=Int.emod_add_mul_ediv v 10
     have e4:(10:Int)^k*(v % 10)+10^k*10*(v/10)=10^k*v:=by rw[Int.mul_assoc,←Int.mul_add,e3]
     rw[Int.add_assoc,e4,hv]
     rw[Int.natCast_add,Int.natCast_add,Int.natCast_add,Int.natCast_mul,Int.natCast_mul,Int.natCast_pow]
     rw[Int.natCast_add]at hval
     have e10:((10:Nat):Int)=10:=rfl
     rw[e10]
     generalize(10:Int)^k=p at*
     grind
    ·refine Zal rfl rfl ?_ ?_
     ·exact⟨rfl,rfl,⟨rfl,(by simp:(out++ [v % 10]).length=out.length+1),(by simp:(out++ [v % 10]).length=out.length+1)⟩,e2.symm,wi.symm,trivial⟩
     ·exact⟨⟨es,fun _=>rfl⟩,trivial⟩
   |false=>
    have h2': ¬ (k:Int)<(b.length:Int):=of_decide_eq_false h2
    iterate 2 refine Zae rfl ?_
    refine ZaW rfl ?_
    refine Za0 ?_
    refine And.intro (fun h3=> ?_) (fun h3=> ?_)
    ·have h3':(0:Int)<c:=of_decide_eq_true h3
     refine(Zdv a k hda (by omega) (by omega)).mono ?_
     rintro _ rfl
     refine(Zdv b k hdb (by omega) (by omega)).mono ?_
     rintro _ rfl
     obtain⟨da,eda⟩: ∃d:Nat,dec a/10^k % 10=d:=⟨_,rfl⟩
     obtain⟨db,edb⟩: ∃d:Nat,dec b/10^k % 10=d:=⟨_,rfl⟩
     have hma:=Zcp (dec a) k
     have hmb:=Zcp (dec b) k
     rw[eda]at hma
     rw[edb]at hmb
     rw[eda,edb]
     have la9:da<10:=by rw[←eda];exact Nat.mod_lt _ (by decide)
     have lb9:db<10:=by rw[←edb];exact Nat.mod_lt _ (by decide)
     have ev:IntKind.i64.wrap (IntKind.i64.wrap ((da:Int)+(db:Int))+c)=(da:Int)+db+c:=by rw[Zah (x:=(da:Int)+(db:Int)) (by omega) (by omega),Zah (by omega) (by omega)]
     obtain⟨v,hv⟩: ∃v:Int,v=(da:Int)+db+c:=⟨_,rfl⟩
     rw[←hv]at ev
     have e1:(IntKind.i64.wrap (IntKind.i64.wrap ((da:Int)+(db:Int))+c)).tmod 10=v % 10:=by rw[ev,Int.tmod_eq_emod_of_nonneg (by omega)]
     have e2:IntKind.i64.wrap ((IntKind.i64.wrap (IntKind.i64.wrap ((da:Int)+(db:Int))+c)).tdiv 10)=v/10:=by rw[ev,Int.tdiv_eq_ediv_of_nonneg (by omega),Zah (by omega) (by omega)]
     refine And.intro (by decide) ?_
     refine And.intro (by show 0+1≤1;decide) ?_
     refine And.intro (by show 0+out.length≤out.length;omega) ?_
     refine And.intro (by show(out.length+(0+1))*8≤_;omega) ?_
     refine And.intro (by decide) ?_
     have es:out++ [v % 10]=sub out 0 out.length++ [(IntKind.i64.wrap (IntKind.i64.wrap ((da:Int)+(db:Int))+c)).tmod 10]:=by rw[e1,sub,List.drop_zero,List.take_length]
     have wi:IntKind.i64.wrap ((k:Int)+1)=((k+1:Nat):Int):=Zah (by omega) (by omega)
     refine⟨(k+1,v/10,out++ [v % 10]),⟨?_,by show 0≤v/10;omega,by show v/10≤1;omega, ?_,by show(out++ [v % 10]).length=k+1;simp[ho], ?_, ?_⟩,by show max a.length b.length+2-(k+1)<max a.length b.length+2-k;omega, ?_⟩
     ·show k+1≤max a.length b.length+1
      rcases Nat.lt_or_ge k (max a.length b.length+1)with h|h
      ·omega
      ·have:=hk1 (by omega)
       omega
     ·intro d hd
      rcases List.mem_append.1 hd with hd|hd
      ·exact h9 d hd
      ·rw[List.mem_singleton.1 hd];omega
     ·intro hk2
      have hk2:k+1=max a.length b.length+1:=hk2
      have z1:=Zbm hda (show a.length≤k by omega)
      have z2:=Zbm hdb (show b.length≤k by omega)
      show v/10=0
      omega
     ·show dv (out++ [v % 10])+10^(k+1)*(v/10)=_
      rw[ZjL,ho,Int.pow_succ,hma,hmb]
      have e3:=Int.emod_add_mul_ediv v 10
      have e4:(10:Int)^k*(v % 10)+10^k*10*(v/10)=10^k*v:=by rw[Int.mul_assoc,←Int.mul_add,e3]
      rw[Int.add_assoc,e4,hv]
      rw[Int.natCast_add,Int.natCast_add,Int.natCast_add,Int.natCast_mul,Int.natCast_mul,Int.natCast_pow]
      rw[Int.natCast_add]at hval
      have e10:((10:Nat):Int)=10:=rfl
      rw[e10]
      generalize(10:Int)^k=p at*
      grind
     ·refine Zal rfl rfl ?_ ?_
      ·exact⟨rfl,rfl,⟨rfl,(by simp:(out++ [v % 10]).length=out.length+1),(by simp:(out++ [v % 10]).length=out.length+1)⟩,e2.symm,wi.symm,trivial⟩
      ·exact⟨⟨es,fun _=>rfl⟩,trivial⟩
    ·have h3': ¬ (0:Int)<c:=of_decide_eq_false h3
     have hc:c=0:=by omega
     subst hc
     have ea:dec a % 10^k=dec a:=Nat.mod_eq_of_lt (Nat.lt_of_lt_of_le (ZbJ hda) (Nat.pow_le_pow_right (by decide) (by omega)))
     have eb:dec b % 10^k=dec b:=Nat.mod_eq_of_lt (Nat.lt_of_lt_of_le (ZbJ hdb) (Nat.pow_le_pow_right (by decide) (by omega)))
     rw[ea,eb,Int.mul_zero,Int.add_zero]at hval
     refine And.intro (by show 0+out.length≤out.length;omega) ?_
     have hs:sub out 0 out.length=out:=by rw[sub,List.drop_zero,List.take_length]
     have hr:=ZoJ out h9 (by omega)
     rw[←hs]at hr
     refine hr.mono ?_
     rintro _ rfl
     rw[hs,hval,Int.toNat_natCast]
     rfl
 ·exact⟨Nat.zero_le _,Int.le_refl _,by show(0:Int)≤1;decide,fun d hd=>by simp at hd,rfl,fun _=>rfl,by simp[dv,Nat.mod_one]⟩
 ·refine Zal rfl rfl ?_ ?_
  ·exact⟨rfl,rfl,⟨rfl,rfl,rfl⟩,rfl,rfl,trivial⟩
  ·exact⟨rfl,trivial⟩
def ZBF (a b:List UInt8) (t:Nat×Int×List Int):TM:=[(0, .v .s a),(1, .v .s b),(5, .ref 0 0 t.2.2.length none),(6, .v (.i .i64) t.2.1),(10, .v (.i .i64) (a.length:Int)),(11, .v (.i .i64) (t.1:Int))]
set_option maxHeartbeats 8000000 in
theorem Zpp (a b:List UInt8) (hda:Dg a) (hdb:Dg b) (hla:a.length≤900000) (hlb:b.length≤900000) (hle:dec b≤dec a):PureOK Tryz.prog Zan 62 [.v .s a, .v .s b] (fun V=>V= .v .s (decDigits (dec a-dec b))):=by
 refine Zac Zaa Tryz.func62 ?_
 refine Zat Zaa rfl (ZBF a b) (fun t=> [.row (.i .i64) t.2.2 true])
  (fun t=>t.1≤a.length∧0≤t.2.1∧t.2.1≤1∧D9 t.2.2∧t.2.2.length=t.1∧dv t.2.2+((dec b % 10^t.1:Nat):Int)=((dec a % 10^t.1:Nat):Int)+10^t.1*t.2.1) (fun t=>a.length-t.1) ?_ (0,0,[]) ?_ ?_
 ·rintro⟨k,c,out⟩ ⟨hk,hc0,hc1,h9,ho,hval⟩
  simp only at hk hc0 hc1 h9 ho hval
  refine And.intro (fun h=> ?_) (fun h=> ?_)
  ·have hlt:k<a.length:=by have h':(k:Int)<(a.length:Int):=of_decide_eq_true h;omega
   refine(Zdv a k hda (by omega) (by omega)).mono ?_
   rintro _ rfl
   refine(Zdv b k hdb (by omega) (by omega)).mono ?_
   rintro _ rfl
   obtain⟨da,eda⟩: ∃d:Nat,dec a/10^k % 10=d:=⟨_,rfl⟩
   obtain⟨db,edb⟩: ∃d:Nat,dec b/10^k % 10=d:=⟨_,rfl⟩
   have hma:=Zcp (dec a) k
   have hmb:=Zcp (dec b) k
   rw[eda]at hma
   rw[edb]at hmb
   rw[eda,edb]
   have la9:da<10:=by rw[←eda];exact Nat.mod_lt _ (by decide)
   have lb9:db<10:=by rw[←edb];exact Nat.mod_lt _ (by decide)
   have ev:IntKind.i64.wrap (IntKind.i64.wrap ((da:Int)-(db:Int))-c)=(da:Int)-db-c:=by rw[Zah (x:=(da:Int)-(db:Int)) (by omega) (by omega),Zah (by omega) (by omega)]
   obtain⟨v,hv⟩: ∃v:Int,v=(da:Int)-db-c:=⟨_,rfl⟩
   rw[←hv]at ev
   have wi:IntKind.i64.wrap ((k:Int)+1)=((k+1:Nat):Int):=Zah (by omega) (by omega)
   have next: ∀d c':Int,0≤d→d≤9→d=v+10*c'→0≤c'→c'≤1→(k+1≤a.length∧0≤c'∧c'≤1∧D9 (out++ [d])∧(out++ [d]).length=k+1∧dv (out++ [d])+((dec b % 10^(k+1):Nat):Int)=((dec a % 10^(k+1):Nat):Int)+10^(k+1)*c'):=by
    intro d c' d0 d9 ed c0 c1
    refine⟨hlt,c0,c1, ?_,by simp[ho], ?_⟩
    ·intro x hx
     rcases List.mem_append.1 hx with hx|hx
     ·exact h9 x hx
     ·rw[List.mem_singleton.1 hx];exact⟨d0,d9⟩
    ·rw[ZjL,ho,Int.pow_succ,hma,hmb,Int.natCast_add,Int.natCast_add,Int.natCast_mul,Int.natCast_mul,Int.natCast_pow]
     have e10:((10:Nat):Int)=10:=rfl
     rw[e10]
     generalize(10:Int)^k=p at*
     subst ed
     rw[hv]
     grind
   refine And.intro (fun h2=> ?_) (fun h2=> ?_)
   ·have h2':IntKind.i64.wrap (IntKind.i64.wrap ((da:Int)-(db:Int))-c)<0:=of_decide_eq_true h2
    rw[ev]at h2'
    have e1:IntKind.i64.wrap (IntKind.i64.wrap (IntKind.i64.wrap ((da:Int)-(db:Int))-c)+10)=v+10:=by rw[ev];exact Zah (by omega) (by omega)
    refine And.intro (by show 0+1≤1;decide) ?_
    refine And.intro (by show 0+out.length≤out.length;omega) ?_
    refine And.intro (by show(out.length+(0+1))*8≤_;omega) ?_
    have es:out++ [v+10]=sub out 0 out.length++ [IntKind.i64.wrap (IntKind.i64.wrap (IntKind.i64.wrap ((da:Int)-(db:Int))-c)+10)]:=by rw[e1,sub,List.drop_zero,List.take_length]
    refine⟨(k+1,1,out++ [v+10]),next (v+10) 1 (by omega) (by omega) (by omega) (by decide) (by decide),by show a.length-(k+1)<a.length-k;omega, ?_⟩
    refine Zal rfl rfl ?_ ?_
    ·exact⟨rfl,rfl,⟨rfl,(by simp:(out++ [v+10]).length=out.length+1),(by simp:(out++ [v+10]).length=out.length+1)⟩,rfl,rfl,wi.symm,trivial⟩
    ·exact⟨⟨es,fun _=>rfl⟩,trivial⟩
   ·have h2': ¬IntKind.i64.wrap (IntKind.i64.wrap ((da:Int)-(db:Int))-c)<0:=of_decide_eq_false h2
    rw[ev]at h2'
    refine And.intro (by show 0+1≤1;decide) ?_
    refine And.intro (by show 0+out.length≤out.length;omega) ?_
    refine And.intro (by show(out.length+(0+1))*8≤_;omega) ?_
    have es:out++ [v]=sub out 0 out.length++ [IntKind.i64.wrap (IntKind.i64.wrap ((da:Int)-(db:Int))-c)]:=by rw[ev,sub,List.drop_zero,List.take_length]
    refine⟨(k+1,0,out++ [v]),next v 0 (by omega) (by omega) (by omega) (by decide) (by decide),by show a.length-(k+1)<a.length-k;omega, ?_⟩
    refine Zal rfl rfl ?_ ?_
    ·exact⟨rfl,rfl,⟨rfl,(by simp:(out++ [v]).length=out.length+1),(by simp:(out++ [v]).length=out.length+1)⟩,rfl,rfl,wi.symm,trivial⟩
    ·exact⟨⟨es,fun _=>rfl⟩,trivial⟩
  ·have he:k=a.length:=by have h': ¬ (k:Int)<(a.length:Int):=of_decide_eq_false h;omega
   subst he
   have ea:dec a % 10^a.length=dec a:=Nat.mod_eq_of_lt (ZbJ hda)
   have eb:dec b % 10^a.length=dec b:=Nat.mod_eq_of_lt (Nat.lt_of_le_of_lt hle (ZbJ hda))
   rw[ea,eb]at hval
   have hlt:=ZAN h9
   rw[ho]at hlt
   have hp:(0:Int)<10^a.length:=Int.pow_pos (by decide)
   have hc:c=0:=by
    rcases(show c=0∨c=1 by omega)with h|h
    ·exact h
    ·subst h;omega
   subst hc
   rw[Int.mul_zero,Int.add_zero]at hval
   refine And.intro (by show 0+out.length≤out.length;omega) ?_
   have hs:sub out 0 out.length=out:=by rw[sub,List.drop_zero,List.take_length]
   have hr:=ZoJ out h9 (by omega)
   rw[←hs]at hr
   refine hr.mono ?_
   rintro _ rfl
   have e:(dv out).toNat=dec a-dec b:=by omega
   rw[hs,e]
   rfl
 ·exact⟨Nat.zero_le _,Int.le_refl _,by show(0:Int)≤1;decide,fun d hd=>by simp at hd,rfl,by simp[dv,Nat.mod_one]⟩
 ·refine Zal rfl rfl ?_ ?_
  ·exact⟨rfl,rfl,⟨rfl,rfl,rfl⟩,rfl,rfl,rfl,trivial⟩
  ·exact⟨rfl,trivial⟩
end Go.Proofs.YtdnodlkdndfplaaGreatDoor
