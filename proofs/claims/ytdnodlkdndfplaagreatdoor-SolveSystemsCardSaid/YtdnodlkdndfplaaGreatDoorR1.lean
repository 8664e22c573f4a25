/-
 The reference: NatError, NatCmp, digit, strip, text.
-/
import Derived.Test.YtdnodlkdndfplaaGreatDoorQ4
set_option linter.constructorNameAsVariable false
set_option linter.unusedSimpArgs false
set_option linter.unusedVariables false
namespace Go.Proofs.YtdnodlkdndfplaaGreatDoor
open Go.Am Go.Tx Dv Go.Lib
set_option maxRecDepth 100000
set_option maxHeartbeats 8000000 in
theorem Zhl (s:List UInt8) (hl:s.length≤9223372036854775806):PureOK Tryz.prog Zan 53 [.v .s s] (fun V=>V= .v (.i .i64) (Zay s)):=by
 refine Zac Zaa Tryz.func53 ?_
 refine And.intro (fun h=> ?_) (fun h=> ?_)
 ·have h':(s.length:Int)=0:=of_decide_eq_true h
  have he:s=[]:=List.length_eq_zero_iff.1 (by omega)
  subst he
  rfl
 have hne:s≠ []:=by
  rintro rfl
  exact absurd rfl (of_decide_eq_false h: ¬ (([]:List UInt8).length:Int)=0)
 refine Zat Zaa rfl (fun(i:Nat)=> [(0, .v .s s),(3, .v (.i .i64) (i:Int))]) (fun _=> [])
  (fun i=>i≤s.length∧Dg (s.take i)) (fun i=>s.length-i) ?_ 0 ?_ ?_
 ·rintro i ⟨hi,hd⟩
  refine And.intro (fun h=> ?_) (fun h=> ?_)
  ·have hlt:i<s.length:=by have h':(i:Int)<(s.length:Int):=of_decide_eq_true h;omega
   obtain⟨c,hc⟩: ∃c,s[i]=c:=⟨_,rfl⟩
   have hx:s[(i:Int).toNat]? =some c:=by rw[Int.toNat_natCast,List.getElem?_eq_getElem hlt,hc]
   have bad: ¬ (48≤c.toNat∧c.toNat≤57)→Zay s=5:=by
    intro h
    have:cnB s=false:=by
     cases hb:cnB s with
     |false=>rfl
     |true=>exact absurd (hc▸(Zlw.1 hb).2.1 _ (List.getElem_mem hlt)) h
    simp only[Zay,this]
   refine ZaA (ZeO rfl (ZaA (ZaI rfl ?_)))
   iterate 2 refine Zad ?_
   refine ZcM (x:=c) rfl (fun _=>rfl) (Int.natCast_nonneg i) hx rfl rfl ?_
   iterate 2 refine Zad ?_
   cases h1:decide (((c.toNat:Nat):Int)<48)with
   |true=>
    have h1':((c.toNat:Nat):Int)<48:=of_decide_eq_true h1
    iterate 4 refine ZaL rfl ?_
    refine ZaY rfl ?_
    refine Za0 ?_
    refine brT rfl ?_
    exact congrArg (SV.v (.i .i64)) (bad (by omega)).symm
   |false=>
    have h1': ¬ ((c.toNat:Nat):Int)<48:=of_decide_eq_false h1
    iterate 2 refine Zae rfl ?_
    refine Zio (x:=c) rfl rfl rfl rfl (fun _=>rfl) (Int.natCast_nonneg i) hx rfl rfl ?_
    refine Zae rfl ?_
    refine ZaW rfl ?_
    refine Za0 ?_
    refine And.intro (fun h2=> ?_) (fun h2=> ?_)
    ·have h2':(57:Int)<((c.toNat:Nat):Int):=of_decide_eq_true h2
     exact congrArg (SV.v (.i .i64)) (bad (by omega)).symm
    ·have h2': ¬ (57:Int)<((c.toNat:Nat):Int):=of_decide_eq_false h2
     have wi:IntKind.i64.wrap ((i:Int)+1)=((i+1:Nat):Int):=Zah (by omega) (by omega)
     refine⟨i+1,⟨hlt, ?_⟩,by show s.length-(i+1)<s.length-i;omega, ?_⟩
     ·rw[List.take_succ_eq_append_getElem hlt]
      refine hd.app ?_
      intro x hx
      rw[List.mem_singleton.1 hx,hc];omega
     ·refine Zal rfl rfl ?_ ?_
      ·exact⟨rfl,wi.symm,trivial⟩
      ·exact trivial
  ·have he:i=s.length:=by have h': ¬ (i:Int)<(s.length:Int):=of_decide_eq_false h;omega
   subst he
   rw[List.take_length]at hd
   have hdB:=ZkU.2 hd
   have hem:s.isEmpty=false:=by simpa using hne
   have large:cnB s=true→(2000:Int)<(s.length:Int)→Zay s=2:=fun h1 h2=>by
    have hb:Nat.ble s.length 2000=false:=by
     cases hb:Nat.ble s.length 2000 with
     |false=>rfl
     |true=>have:=Nat.le_of_ble_eq_true hb;omega
    simp only[Zay,h1,hb]
   have fine:cnB s=true→ ¬ (2000:Int)<(s.length:Int)→Zay s=0:=fun h1 h2=>by
    simp only[Zay,h1,Nat.ble_eq_true_of_le (show s.length≤2000 by omega)]
   have bad:cnB s=false→Zay s=5:=fun h=>by simp only[Zay,h]
   refine ZaA (ZaA (ZaI rfl ?_))
   iterate 4 refine Zad ?_
   cases h2:decide ((1:Int)<(s.length:Int))with
   |true=>
    have h2':(1:Int)<(s.length:Int):=of_decide_eq_true h2
    obtain⟨c,r,hs⟩: ∃c r,s=c::r:=by
     cases s with
     |nil=>exact absurd rfl hne
     |cons c r=>exact⟨c,r,rfl⟩
    have hd1:decide (1<s.length)=true:=decide_eq_true (by omega)
    have hcb:cnB s= !decide (((c.toNat:Nat):Int)=48):=by
     simp only[cnB,hdB,hem,hd1,Bool.true_and,Bool.not_false]
     congr 1
     rw[hs,List.head?_cons]
     by_cases h:c=48
     ·subst h;rfl
     ·have h3: ¬ ((c.toNat:Nat):Int)=48:=fun h4=>h (UInt8.toNat_inj.1 (by show c.toNat=48;omega))
      rw[decide_eq_false h3]
      simp[h]
    refine Zae rfl ?_
    refine Zio (x:=c) rfl rfl rfl rfl (fun _=>rfl) (Int.le_refl 0) (by rw[hs];rfl) rfl rfl ?_
    refine Zae rfl ?_
    refine ZaY rfl ?_
    refine Za0 ?_
    refine And.intro (fun h3=> ?_) (fun h3=> ?_)
    ·have h3':decide (((c.toNat:Nat):Int)=48)=true:=h3
     exact congrArg (SV.v (.i .i64)) (bad (by rw[hcb,h3'];rfl)).symm
    ·have h3':decide (((c.toNat:Nat):Int)=48)=false:=h3
     refine And.intro (fun h4=> ?_) (fun h4=> ?_)
     ·have h4':(2000:Int)<(s.length:Int):=of_decide_eq_true h4
      exact congrArg (SV.v (.i .i64)) (large (by rw[hcb,h3'];rfl) h4').symm
     ·have h4': ¬ (2000:Int)<(s.length:Int):=of_decide_eq_false h4
      exact congrArg (SV.v (.i .i64)) (fine (by rw[hcb,h3'];rfl) h4').symm
   |false=>
    have h2': ¬ (1:Int)<(s.length:Int):=of_decide_eq_false h2
    have hd1:decide (1<s.length)=false:=decide_eq_false (by omega)
    have hcb:cnB s=true:=by simp only[cnB,hdB,hem,hd1,Bool.true_and,Bool.false_and,Bool.not_false,Bool.and_self]
    iterate 3 refine ZaL rfl ?_
    refine ZaW rfl ?_
    refine Za0 ?_
    refine brF rfl ?_
    refine And.intro (fun h4=> ?_) (fun h4=> ?_)
    ·have h4':(2000:Int)<(s.length:Int):=of_decide_eq_true h4
     omega
    ·exact congrArg (SV.v (.i .i64)) (fine hcb (by omega)).symm
 ·exact⟨Nat.zero_le _,fun c hc=>by simp at hc⟩
 ·refine Zal rfl rfl ?_ ?_
  ·exact⟨rfl,rfl,trivial⟩
  ·exact trivial
set_option maxHeartbeats 4000000 in
theorem ZpG (a b:List UInt8) (ha:Cn a) (hb:Cn b) (hla:a.length≤9223372036854775806) (hlb:b.length≤9223372036854775806):PureOK Tryz.prog Zan 61 [.v .s a, .v .s b] (fun V=>V= .v (.i .i64) ((dec a:Int)-(dec b:Int)).sign):=by
 refine Zac Zaa Tryz.func61 ?_
 have neg:dec a<dec b→((dec a:Int)-(dec b:Int)).sign= -1:=fun h=>Int.sign_eq_neg_one_of_neg (by omega)
 have pos:dec b<dec a→((dec a:Int)-(dec b:Int)).sign=1:=fun h=>Int.sign_eq_one_of_pos (by omega)
 refine And.intro (fun h=> ?_) (fun h=> ?_)
 ·have h':(a.length:Int)<(b.length:Int):=of_decide_eq_true h
  exact congrArg (SV.v (.i .i64)) (neg (Zi6 ha hb (by omega))).symm
 have h1: ¬ (a.length:Int)<(b.length:Int):=of_decide_eq_false h
 refine And.intro (fun h=> ?_) (fun h=> ?_)
 ·have h':(b.length:Int)<(a.length:Int):=of_decide_eq_true h
  exact congrArg (SV.v (.i .i64)) (pos (Zi6 hb ha (by omega))).symm
 have h2: ¬ (b.length:Int)<(a.length:Int):=of_decide_eq_false h
 have hl:a.length=b.length:=by omega
 have hbd:=Zf1 ha.2.1 hb.2.1 hl
 refine And.intro (fun h=> ?_) (fun h=> ?_)
 ·have h':Op.bytesLess a b=true:=h
  exact congrArg (SV.v (.i .i64)) (neg (hbd.1 h')).symm
 have h3: ¬dec a<dec b:=fun h4=>by
  have h':Op.bytesLess a b=false:=h
  rw[hbd.2 h4]at h';cases h'
 have hbl:Op.bytesLess a b=false:=h
 refine And.intro (fun h=> ?_) (fun h=> ?_)
 ·have h':(!(Op.bytesLess a b||a==b))=true:=h
  rw[hbl,Bool.false_or]at h'
  have hne:a≠b:=by simpa using h'
  have:dec a≠dec b:=fun e=>hne (ha.inj hb e)
  exact congrArg (SV.v (.i .i64)) (pos (by omega)).symm
 ·have h':(!(Op.bytesLess a b||a==b))=false:=h
  rw[hbl,Bool.false_or]at h'
  have he:a=b:=by simpa using h'
  subst he
  exact congrArg (SV.v (.i .i64)) (by simp:(0:Int)=((dec a:Int)-(dec a:Int)).sign)
set_option maxHeartbeats 4000000 in
theorem Zdv (s:List UInt8) (k:Nat) (hd:Dg s) (hl:s.length≤1000000000) (hk:k≤1000000000):PureOK Tryz.prog Zan 114 [.v .s s, .v (.i .i64) (k:Int)] (fun V=>V= .v (.i .i64) ((dec s/10^k % 10:Nat):Int)):=by
 refine Zac Zaa Tryz.func114 ?_
 refine And.intro (fun h=> ?_) (fun h=> ?_)
 ·have hlt:k<s.length:=by have h':(k:Int)<(s.length:Int):=of_decide_eq_true h;omega
  have hi:s.length-1-k<s.length:=by omega
  obtain⟨c,hc⟩: ∃c,s[s.length-1-k]=c:=⟨_,rfl⟩
  have e1:IntKind.i64.wrap (IntKind.i64.wrap ((s.length:Int)-1)-(k:Int))=((s.length-1-k:Nat):Int):=by rw[Zah (x:=(s.length:Int)-1) (by omega) (by omega),Zah (by omega) (by omega)];omega
  have hdg:=hd _ (List.getElem_mem hi)
  have hv:=ZsZ hd hlt
  rw[hc]at hdg hv
  have j1:=j0 _ _ e1 (by omega)
  refine⟨c,j1,by rw[e1,Int.toNat_natCast,List.getElem?_eq_getElem hi,hc], ?_⟩
  refine congrArg (SV.v (.i .i64)) (?_:IntKind.i64.wrap (IntKind.u8.wrap (((c.toNat:Nat):Int)-48))=_)
  have e2:IntKind.u8.wrap (((c.toNat:Nat):Int)-48)=((c.toNat-48:Nat):Int):=by
   rw[Zef (by omega) (by omega)];omega
  rw[e2,Zah (by omega) (by omega),hv]
 ·have hge:s.length≤k:=by have h': ¬ (k:Int)<(s.length:Int):=of_decide_eq_false h;omega
  exact congrArg (SV.v (.i .i64)) (by rw[Zbm hd hge];rfl)
set_option maxHeartbeats 4000000 in
theorem ZkX (s:List UInt8) (hd:Dg s) (hne:s≠ []) (hl:s.length≤9223372036854775806):PureOK Tryz.prog Zan 153 [.v .s s] (fun V=>V= .v .s (decDigits (dec s))):=by
 refine Zac Zaa Tryz.func153 ?_
 refine Zat Zaa rfl (fun(r:List UInt8)=> [(0, .v .s r)]) (fun _=> [])
  (fun r=>Dg r∧r≠ []∧dec r=dec s∧r.length≤s.length) (fun r=>r.length) ?_ s ?_ ?_
 ·rintro r ⟨h1,h2,h3,h4⟩
  obtain⟨c,t,rfl⟩: ∃c t,r=c::t:=by
   cases r with
   |nil=>exact absurd rfl h2
   |cons c t=>exact⟨c,t,rfl⟩
  have done:(1<(c::t).length→c≠48)→SV.v .s (c::t)= .v .s (decDigits (dec s)):=fun h=>by
   have hc:Cn (c::t):=⟨by simp,h1,fun hl h'=>h hl (by simpa using h')⟩
   rw[←h3,hc.eq]
  refine ZaA (ZaA (ZaI rfl ?_))
  iterate 4 refine Zad ?_
  cases hb:decide ((1:Int)<((c::t).length:Int))with
  |true=>
   have hlen:(1:Int)<((c::t).length:Int):=of_decide_eq_true hb
   refine Zae rfl ?_
   refine Zio (x:=c) rfl rfl rfl rfl (fun _=>rfl) (Int.le_refl 0) rfl rfl rfl ?_
   refine Zae rfl ?_
   refine ZaY rfl ?_
   refine Za0 ?_
   refine And.intro (fun h=> ?_) (fun h=> ?_)
   ·have hc:c=48:=UInt8.toNat_inj.1 (by have h':((c.toNat:Nat):Int)=48:=of_decide_eq_true h;show c.toNat=48;omega)
    subst hc
    refine And.intro ⟨by decide,Int.le_of_lt hlen⟩ ?_
    have ht:t≠ []:=by rintro rfl;simp at hlen
    have et:t=List.drop (Int.toNat 1) (List.take ((48:UInt8)::t).length (48::t)):=by rw[List.take_length];rfl
    refine⟨t,⟨fun x hx=>h1 x (List.mem_cons_of_mem _ hx),ht,by rw[←h3,Zcq];simp,by have:=h4;simp at this;omega⟩,by show t.length<(48::t).length;simp, ?_⟩
    refine Zal rfl rfl ?_ ?_
    ·exact⟨et,trivial⟩
    ·exact trivial
   ·have hc:c≠48:=by
     rintro rfl
     exact absurd rfl (of_decide_eq_false h: ¬ (((48:UInt8).toNat:Nat):Int)=48)
    exact done fun _=>hc
  |false=>
   have hlen: ¬ (1:Int)<((c::t).length:Int):=of_decide_eq_false hb
   iterate 3 refine ZaL rfl ?_
   refine ZaW rfl ?_
   refine Za0 ?_
   refine brF rfl ?_
   exact done fun h=>by omega
 ·exact⟨hd,hne,rfl,Nat.le_refl _⟩
 ·refine Zal rfl rfl ?_ ?_
  ·exact⟨rfl,trivial⟩
  ·exact trivial
set_option maxHeartbeats 4000000 in
theorem ZoJ (l:List Int) (hd:D9 l) (hl:l.length≤1000000):PureOK Tryz.prog Zan 115 [.v (.l (.i .i64)) l] (fun V=>V= .v .s (decDigits (dv l).toNat)):=by
 refine Zac Zaa Tryz.func115 ?_
 have w2:0≤(l.length:Int)∧(l.length:Int)≤l.length∧(1:Int)*l.length≤281474976710656∧(l.length:Int)<9223372036854775808:=by omega
 have w3:l.length=(l.length:Int).toNat:=(Int.toNat_natCast _).symm
 refine And.intro w2 ?_
 refine Zat Zaa rfl (fun(t:Nat×List Int)=> [(0, .v (.l (.i .i64)) l),(3, .ref 0 0 l.length none),(9, .v (.l (.i .i64)) l),(10, .v (.i .i64) (l.length:Int)),(11, .v (.i .i64) (t.1:Int))]) (fun t=> [.row (.i .u8) t.2 true])
  (fun t=>t.1≤l.length∧t.2.length=l.length∧t.2.drop (l.length-t.1)=((l.take t.1).reverse.map fun d=>48+d)) (fun t=>l.length-t.1) ?_ (0,List.replicate l.length 0) ?_ ?_
 ·rintro⟨i,b⟩ ⟨hi,hbl,hb⟩
  simp only at hi hbl hb
  refine And.intro (fun h=> ?_) (fun h=> ?_)
  ·have hlt:i<l.length:=by have h':(i:Int)<(l.length:Int):=of_decide_eq_true h;omega
   have hdi:=hd _ (List.getElem_mem hlt)
   obtain⟨d,ed⟩: ∃d,l[i]=d:=⟨_,rfl⟩
   rw[ed]at hdi
   have e1:IntKind.i64.wrap (IntKind.i64.wrap ((l.length:Int)-1)-(i:Int))=((l.length-1-i:Nat):Int):=by rw[Zah (x:=(l.length:Int)-1) (by omega) (by omega),Zah (by omega) (by omega)];omega
   have hj:l.length-1-i<b.length:=by omega
   have b1:(0:Int)≤IntKind.i64.wrap (IntKind.i64.wrap ((l.length:Int)-1)-(i:Int))∧IntKind.i64.wrap (IntKind.i64.wrap ((l.length:Int)-1)-(i:Int))<(l.length:Int):=by rw[e1];omega
   refine⟨d,Int.natCast_nonneg i,by rw[Int.toNat_natCast,List.getElem?_eq_getElem hlt,ed], ?_⟩
   refine And.intro b1 ?_
   refine Exists.intro (b[l.length-1-i]) (And.intro (by show b[0+(IntKind.i64.wrap (IntKind.i64.wrap ((l.length:Int)-1)-(i:Int))).toNat]? =_;rw[e1,Nat.zero_add,Int.toNat_natCast];exact List.getElem?_eq_getElem hj) ?_)
   have ev:IntKind.u8.wrap (IntKind.i64.wrap (48+d))=48+d:=by rw[Zah (by omega) (by omega)];exact Zef (by omega) (by omega)
   have er:b.set (l.length-1-i) (48+d)=b.set (0+(IntKind.i64.wrap (IntKind.i64.wrap ((l.length:Int)-1)-(i:Int))).toNat) (IntKind.u8.wrap (IntKind.i64.wrap (48+d))):=by rw[ev,e1,Nat.zero_add,Int.toNat_natCast]
   have wi:IntKind.i64.wrap ((i:Int)+1)=((i+1:Nat):Int):=Zah (by omega) (by omega)
   refine⟨(i+1,b.set (l.length-1-i) (48+d)),⟨hlt,by show(b.set _ _).length=_;rw[List.length_set];exact hbl, ?_⟩,by show l.length-(i+1)<l.length-i;omega, ?_⟩
   ·show(b.set (l.length-1-i) (48+d)).drop (l.length-(i+1))=_
    rw[show l.length-(i+1)=l.length-1-i by omega,List.drop_eq_getElem_cons (by rw[List.length_set];omega),List.getElem_set_self,List.drop_set_of_lt (by omega),show l.length-1-i+1=l.length-i by omega,hb,List.take_succ_eq_append_getElem hlt,ed]
    simp
   ·refine Zal rfl rfl ?_ ?_
    ·exact⟨rfl,⟨rfl,rfl,rfl⟩,rfl,rfl,wi.symm,trivial⟩
    ·exact⟨⟨er,fun _=>rfl⟩,trivial⟩
  ·have he:i=l.length:=by have h': ¬ (i:Int)<(l.length:Int):=of_decide_eq_false h;omega
   subst he
   rw[Nat.sub_self,List.drop_zero,List.take_length]at hb
   have hs:sub b 0 l.length=b:=by rw[sub,List.drop_zero,List.take_of_length_le (by omega)]
   obtain⟨c1,c2,c3⟩:=Zm6 hd
   have hby:Zin b=ZhX l:=by rw[hb,Zin,ZhX,List.map_map];rfl
   refine And.intro (by show 0+l.length≤b.length;omega) ?_
   refine And.intro (by show([48]:List UInt8).length+(Zin (sub b 0 l.length)).length≤_;rw[hs,hby,c3];simp;omega) ?_
   have hst:=ZkX (48::ZhX l) (fun c hc=>by
    rcases List.mem_cons.1 hc with rfl|hc
    ·decide
    ·exact c1 c hc) (by simp) (by rw[List.length_cons,c3];omega)
   rw[Zj8 c1]at hst
   have e5:(dv l).toNat=dec (ZhX l):=by rw[←c2,Int.toNat_natCast]
   have e6:[48]++Zin (sub b 0 l.length)=48::ZhX l:=by rw[hs,hby];rfl
   rw[←e6,←e5]at hst
   refine hst.mono ?_
   rintro _ rfl
   rfl
 ·refine⟨Nat.zero_le _,by simp, ?_⟩
  show(List.replicate l.length (0:Int)).drop (l.length-0)=_
  rw[List.drop_of_length_le (by simp)]
  simp
 ·refine Zal rfl rfl ?_ ?_
  ·exact⟨rfl,⟨rfl,w3,w3⟩,rfl,rfl,rfl,trivial⟩
  ·exact⟨⟨(by show List.replicate l.length (0:Int)=List.replicate ((l.length:Int).toNat) 0;rw[←w3]),fun _=>rfl⟩,trivial⟩
end Go.Proofs.YtdnodlkdndfplaaGreatDoor
