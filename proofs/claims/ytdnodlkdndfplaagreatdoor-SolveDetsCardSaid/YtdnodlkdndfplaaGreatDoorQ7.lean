/-
 The package rat: CheckAll, Add, Sub, Mul, Div, Neg, Compare, Sign, Of.
-/
import Derived.Test.YtdnodlkdndfplaaGreatDoorQ6
set_option linter.constructorNameAsVariable false
set_option linter.unusedSimpArgs false
set_option linter.unusedVariables false
namespace Go.Proofs.YtdnodlkdndfplaaGreatDoor
open Go.Am Go.Tx Dv Go.Lib
set_option maxRecDepth 100000
set_option maxHeartbeats 4000000 in
theorem ZpK (l:List (List UInt8)) (hl:l.length≤1000000000) (hs: ∀a∈l,a.length≤9223372036854775806):PureOK Tryz.prog Zaw 101 [.v (.l .s) l] (fun V=>V= .v (.i .i64) (Ze5 l)):=by
 refine Zak Zal Tryz.func101 ?_
 refine Zaz Zal rfl (fun(i:Nat)=> [(0, .v (.l .s) l),(6, .v (.l .s) l),(7, .v (.i .i64) (l.length:Int)),(8, .v (.i .i64) (i:Int))]) (fun _=> [])
  (fun i=>i≤l.length∧Ze5 (l.drop i)=Ze5 l) (fun i=>l.length-i) ?_ 0 ?_ ?_
 ·rintro i ⟨hi,he⟩
  refine And.intro (fun h=> ?_) (fun h=> ?_)
  ·have hlt:i<l.length:=by have h':(i:Int)<(l.length:Int):=of_decide_eq_true h;omega
   obtain⟨x,hx⟩: ∃x,l[i]=x:=⟨_,rfl⟩
   have gx:l[(i:Int).toNat]? =some x:=by rw[Int.toNat_natCast,List.getElem?_eq_getElem hlt,hx]
   have hxl:=hs x (hx▸List.getElem_mem hlt)
   rw[List.drop_eq_getElem_cons hlt,hx,Ze5]at he
   refine⟨x,Int.natCast_nonneg i,gx, ?_⟩
   refine(Zvu x hxl).mono ?_
   rintro _ rfl
   refine And.intro (fun h2=> ?_) (fun h2=> ?_)
   ·have h2':(!decide (ZbG x=0))=true:=h2
    have hd:decide (ZbG x=0)=false:=by cases hd:decide (ZbG x=0)<;>simp[hd]at h2'⊢
    rw[hd]at he
    exact congrArg (SV.v (.i .i64)) he
   ·have h2':(!decide (ZbG x=0))=false:=h2
    have hd:decide (ZbG x=0)=true:=by cases hd:decide (ZbG x=0)<;>simp[hd]at h2'⊢
    rw[hd]at he
    have wi:IntKind.i64.wrap ((i:Int)+1)=((i+1:Nat):Int):=Zao (by omega) (by omega)
    refine⟨i+1,⟨hlt,he⟩,by show l.length-(i+1)<l.length-i;omega, ?_⟩
    refine Zas rfl rfl ?_ ?_
    ·exact⟨rfl,rfl,rfl,wi.symm,trivial⟩
    ·exact trivial
  ·have hi2:i=l.length:=by have h': ¬ (i:Int)<(l.length:Int):=of_decide_eq_false h;omega
   rw[List.drop_of_length_le (by omega)]at he
   exact congrArg (SV.v (.i .i64)) he
 ·exact⟨Nat.zero_le _,rfl⟩
 ·refine Zas rfl rfl ?_ ?_
  ·exact⟨rfl,rfl,rfl,rfl,trivial⟩
  ·exact trivial
set_option maxHeartbeats 4000000 in
theorem ZxA (q:Rat):PureOK Tryz.prog Zaw 74 [QR q] (fun V=> ∃X,V= .tup [.v .s X, .v .b (Zhr q)]∧(Zhr q=true→X=Zbv q)):=by
 refine Zak Zal Tryz.func74 ?_
 have hN:=Zph q.num
 have hD:=Zph (q.den:Int)
 obtain⟨n1,n2⟩:=Zn7 q.num
 obtain⟨d1,d2⟩:=Zn7 (q.den:Int)
 have ln:=Zmx (decide (q.num<0)) (wOf q.num.natAbs)
 have ld:=Zmx (decide ((q.den:Int)<0)) (wOf (q.den:Int).natAbs)
 have hfit:Zhr q=(Zcq (wOf q.num.natAbs)&&Zcq (wOf (q.den:Int).natAbs)):=by
  rw[n1,d1,Int.natAbs_natCast]
  rfl
 rw[←n1]at n2
 rw[←d1,decide_eq_false (by omega: ¬ (q.den:Int)<0)]at d2
 rw[decide_eq_false (by omega: ¬ (q.den:Int)<0)]at ld hD
 obtain⟨t1,e1⟩: ∃x,ZcV (decide (q.num<0)) (wOf q.num.natAbs)=x:=⟨_,rfl⟩
 obtain⟨f1,g1⟩: ∃x,Zcq (wOf q.num.natAbs)=x:=⟨_,rfl⟩
 obtain⟨t2,e2⟩: ∃x,ZcV false (wOf (q.den:Int).natAbs)=x:=⟨_,rfl⟩
 obtain⟨f2,g2⟩: ∃x,Zcq (wOf (q.den:Int).natAbs)=x:=⟨_,rfl⟩
 have hD:PureOK Tryz.prog Zaw 126 [IS (q.den:Int)] (fun V=>V= .tup [.v .s (ZcV false (wOf (q.den:Int).natAbs)), .v .b (Zcq (wOf (q.den:Int).natAbs))]):=by
  have:=Zph (q.den:Int)
  refine this.mono ?_
  rintro _ rfl
  rw[decide_eq_false (by omega: ¬ (q.den:Int)<0)]
 rw[e1,g1]at hN n2
 rw[e2,g2]at hD d2
 rw[g1,g2]at hfit
 rw[e1]at ln
 rw[e2]at ld
 rw[Int.natAbs_natCast]at d2
 have hr:Zbv q=mns (decide (q.num<0)) (decDigits q.num.natAbs++Zbu q.den):=rfl
 obtain⟨m,hm⟩: ∃m,decide (q.num<0)=m:=⟨_,rfl⟩
 have n3:f1=true→t1=mns m (decDigits q.num.natAbs):=fun h=>by rw[n2 h,hm]
 rw[hm]at hr
 rw[hfit]
 refine And.intro rfl ?_
 refine hN.mono ?_
 rintro _ rfl
 cases f1 with
 |false=>
  refine And.intro (fun _=> ?_) (fun h=>nomatch h)
  exact⟨[],rfl,fun h=>nomatch h⟩
 |true=>
  have n3:=n3 rfl
  refine And.intro (fun h=>nomatch h) (fun _=> ?_)
  refine And.intro rfl ?_
  refine hD.mono ?_
  rintro _ rfl
  refine And.intro (fun h=> ?_) (fun h=> ?_)
  ·have h':t2=[49]:=eq_of_beq h
   refine⟨t1,rfl,fun hf=> ?_⟩
   have hf:f2=true:=hf
   have h3:=d2 hf
   have h4:decDigits q.den=[49]:=h3.symm.trans h'
   have h5:q.den=1:=(ZvQ (Za3 q.den)).2 h4|>fun h=>by rw[Zat]at h;exact h
   rw[hr,n3,Zbu,decide_eq_true h5,List.append_nil]
  ·have h': ¬t2=[49]:=fun e=>by rw[e]at h;cases h
   refine And.intro (by show t1.length+1≤9223372036854775807;omega) ?_
   refine And.intro (by show(t1++ [47]).length+t2.length≤9223372036854775807;rw[List.length_append];simp only[List.length_singleton];omega) ?_
   refine⟨t1++ [47]++t2,rfl,fun hf=> ?_⟩
   have hf:f2=true:=hf
   have h3:=d2 hf
   have h5: ¬q.den=1:=fun e=>h' (by rw[h3,e];exact decDigits_one (by decide))
   rw[hr,n3,Zbu,decide_eq_false h5,h3]
   cases m<;>simp[mns]
theorem ZoX (m:Bool) (n:Nat) (hl:(decDigits n).length≤300000000):PureOK Tryz.prog Zaw 109 [.v .s (mns m (decDigits n))] (fun V=>V=IS (sg m (n:Int))):=by
 have h:=Zsx m (decDigits n) (ZaN n) hl
 rw[Zat]at h
 have e:ZqW m (decDigits n)=mns m (decDigits n):=by cases m<;>rfl
 rw[e]at h
 exact h
set_option maxHeartbeats 4000000 in
theorem Zw2 (q:Rat) (h:Zhr q=true):PureOK Tryz.prog Zaw 49 [.v .s (Zbv q)] (fun V=>V=QR q):=by
 obtain⟨h1,h2⟩:=Zeu.1 h
 have hl:=ZxE h
 have hC:=ZyC (Zbv q) 47 (by omega)
 have hc:Zc0 (Zbv q) 47=match decide (q.den=1)with
  |true=>(mns (decide (q.num<0)) (decDigits q.num.natAbs),[],false)
  |false=>(mns (decide (q.num<0)) (decDigits q.num.natAbs),decDigits q.den,true):=ZxJ _ _ _
 have hN:=ZoX (decide (q.num<0)) q.num.natAbs (by omega)
 rw[ZjJ]at hN
 have hD:=ZoX false q.den (by omega)
 refine Zak Zal Tryz.func49 ?_
 cases hd:decide (q.den=1)with
 |true=>
  rw[hd]at hc
  simp only at hc
  rw[hc]at hC
  have h1:q.den=1:=of_decide_eq_true hd
  refine hC.mono ?_
  rintro _ rfl
  refine And.intro (fun _=> ?_) (fun h=>nomatch h)
  refine hN.mono ?_
  rintro _ rfl
  refine(Zx4 1 (by decide) (by decide)).mono ?_
  rintro _ rfl
  refine And.intro rfl ?_
  refine And.intro rfl ?_
  show QS q.num ((1:Nat):Int)=QS q.num (q.den:Int)
  rw[h1]
 |false=>
  rw[hd]at hc
  simp only at hc
  rw[hc]at hC
  refine hC.mono ?_
  rintro _ rfl
  refine And.intro (fun h=>nomatch h) (fun _=> ?_)
  refine hN.mono ?_
  rintro _ rfl
  refine hD.mono ?_
  rintro _ rfl
  refine And.intro rfl ?_
  refine And.intro rfl ?_
  rfl
end Go.Proofs.YtdnodlkdndfplaaGreatDoor
/-
 The reference's decimal arithmetic in plain Lean: digits, the least one first.
-/
namespace Dv
open Go Go.Lib
def dv:List Int→Int
 | []=>0
 |d::l=>d+10*dv l
theorem Zi2: ∀ (l:List Int) (d:Int),dv (l++ [d])=dv l+10^l.length*d
 | [],d=>by simp[dv]
 |x::l,d=>by
  simp only[List.cons_append,dv,Zi2 l d,List.length_cons,Int.pow_succ]
  grind
def D9 (l:List Int):Prop:= ∀d∈l,0≤d∧d≤9
theorem ZlZ: ∀ {l:List Int},(∀d∈l,0≤d)→0≤dv l
 | [],_=>Int.le_refl _
 |x::l,h=>by
  have h1:=h x List.mem_cons_self
  have h2:=ZlZ (l:=l) fun y hy=>h y (List.mem_cons_of_mem _ hy)
  simp only[dv];omega
theorem Zzb: ∀ {l:List Int},D9 l→dv l<10^l.length
 | [],_=>by simp[dv]
 |x::l,h=>by
  have h1:=h x List.mem_cons_self
  have h2:=Zzb (l:=l) fun y hy=>h y (List.mem_cons_of_mem _ hy)
  simp only[dv,List.length_cons,Int.pow_succ];omega
theorem Zw6 {l:List Int} {i:Nat} (h:i<l.length):dv (l.take (i+1))=dv (l.take i)+10^i*l[i]:=by
 rw[List.take_succ_eq_append_getElem h,Zi2,List.length_take,Nat.min_eq_left (Nat.le_of_lt h)]
theorem ZoN: ∀ {l:List Int} {i:Nat} {x:Int} (h:i<l.length),dv (l.set i x)=dv l+10^i*(x-l[i])
 | [],i,x,h=>by simp at h
 |y::l,0,x,_=>by simp only[List.set_cons_zero,dv,List.getElem_cons_zero,Int.pow_zero];omega
 |y::l,i+1,x,h=>by
  have ih:=ZoN (l:=l) (i:=i) (x:=x) (by simpa using h)
  simp only[List.set_cons_succ,dv,List.getElem_cons_succ,ih,Int.pow_succ]
  grind
def Zhe (l:List Int):List UInt8:=l.reverse.map fun d=>UInt8.ofNat (48+d).toNat
theorem Zmf: ∀ {l:List Int},D9 l→Dg (Zhe l)∧((dec (Zhe l):Nat):Int)=dv l∧(Zhe l).length=l.length
 | [],_=>⟨fun c hc=>by simp[Zhe]at hc,rfl,rfl⟩
 |d::l,h=>by
  have h1:=h d List.mem_cons_self
  obtain⟨h2,h3,h4⟩:=Zmf (l:=l) fun y hy=>h y (List.mem_cons_of_mem _ hy)
  have e:Zhe (d::l)=Zhe l++ [UInt8.ofNat (48+d).toNat]:=by simp[Zhe]
  have e2:(48+d).toNat=48+d.toNat:=by omega
  have e3:(UInt8.ofNat (48+d).toNat).toNat=48+d.toNat:=by rw[e2];exact Zc3 (by omega)
  rw[e]
  refine⟨h2.app ?_, ?_,by simp[h4]⟩
  ·intro c hc
   rw[List.mem_singleton.1 hc,e3];omega
  ·rw[Zev,e3,Int.natCast_add,Int.natCast_mul,h3]
   simp only[dv]
   omega
theorem ZrZ {s:List UInt8} (h:Dg s) {k:Nat} (hk:k<s.length):(s[s.length-1-k]'(by omega)).toNat-48=dec s/10^k % 10:=by
 have e:s=s.take (s.length-1-k)++(s[s.length-1-k]'(by omega)::s.drop (s.length-1-k+1)):=by
  rw[←List.drop_eq_getElem_cons,List.take_append_drop]
 have hd:Dg (s.drop (s.length-1-k+1)):=fun c hc=>h c (List.mem_of_mem_drop hc)
 have hl:(s.drop (s.length-1-k+1)).length=k:=by rw[List.length_drop];omega
 have hlt:=ZbF hd
 rw[hl]at hlt
 have hc:=h _ (List.getElem_mem (show s.length-1-k<s.length by omega))
 have hv:dec s=(dec (s.take (s.length-1-k))*10+((s[s.length-1-k]'(by omega)).toNat-48))*10^k+dec (s.drop (s.length-1-k+1)):=by
  conv=>lhs;rw[e]
  rw[Zkz,Zb7,List.length_cons,hl,Nat.pow_succ]
  grind
 rw[hv,Nat.add_comm,Nat.add_mul_div_right _ _ (Nat.pow_pos (by decide)),Nat.div_eq_of_lt hlt,Nat.zero_add]
 omega
theorem Zbh {s:List UInt8} (h:Dg s) {k:Nat} (hk:s.length≤k):dec s/10^k % 10=0:=by
 have h1:=ZbF h
 have h2:=Nat.pow_le_pow_right (show 0<10 by decide) hk
 rw[Nat.div_eq_of_lt (by omega)]
theorem Zcb (n k:Nat):n % 10^(k+1)=n % 10^k+10^k*(n/10^k % 10):=by
 rw[Nat.pow_succ,Nat.mod_mul]
end Dv
/-
 The reference: NatError, NatCmp, digit, strip, text.
-/
namespace Go.Proofs.YtdnodlkdndfplaaGreatDoor
open Go.Am Go.Tx Dv Go.Lib
set_option maxRecDepth 100000
set_option maxHeartbeats 8000000 in
theorem Zgt (s:List UInt8) (hl:s.length≤9223372036854775806):PureOK Tryz.prog Zaw 53 [.v .s s] (fun V=>V= .v (.i .i64) (ZaB s)):=by
 refine Zak Zal Tryz.func53 ?_
 refine And.intro (fun h=> ?_) (fun h=> ?_)
 ·have h':(s.length:Int)=0:=of_decide_eq_true h
  have he:s=[]:=List.length_eq_zero_iff.1 (by omega)
  subst he
  rfl
 have hne:s≠ []:=by
  rintro rfl
  exact absurd rfl (of_decide_eq_false h: ¬ (([]:List UInt8).length:Int)=0)
 refine Zaz Zal rfl (fun(i:Nat)=> [(0, .v .s s),(3, .v (.i .i64) (i:Int))]) (fun _=> [])
  (fun i=>i≤s.length∧Dg (s.take i)) (fun i=>s.length-i) ?_ 0 ?_ ?_
 ·rintro i ⟨hi,hd⟩
  refine And.intro (fun h=> ?_) (fun h=> ?_)
  ·have hlt:i<s.length:=by have h':(i:Int)<(s.length:Int):=of_decide_eq_true h;omega
   obtain⟨c,hc⟩: ∃c,s[i]=c:=⟨_,rfl⟩
   have hx:s[(i:Int).toNat]? =some c:=by rw[Int.toNat_natCast,List.getElem?_eq_getElem hlt,hc]
   have bad: ¬ (48≤c.toNat∧c.toNat≤57)→ZaB s=5:=by
    intro h
    have:cnB s=false:=by
     cases hb:cnB s with
     |false=>rfl
     |true=>exact absurd (hc▸(ZkT.1 hb).2.1 _ (List.getElem_mem hlt)) h
    simp only[ZaB,this]
   refine Zab (Zac rfl (Zab (Zaa rfl ?_)))
   iterate 2 refine Zaf rfl (fun _=>rfl) rfl rfl ?_
   refine ZmH (x:=c) rfl (fun _=>rfl) (Int.natCast_nonneg i) hx rfl rfl ?_
   iterate 2 refine Zaf rfl (fun _=>rfl) rfl rfl ?_
   cases h1:decide (((c.toNat:Nat):Int)<48)with
   |true=>
    have h1':((c.toNat:Nat):Int)<48:=of_decide_eq_true h1
    iterate 4 refine Zai rfl rfl rfl rfl rfl rfl ?_
    refine ZaJ rfl rfl rfl rfl rfl rfl rfl ?_
    refine Zah ?_
    refine And.intro (fun _=> ?_) (fun h'=>nomatch h')
    exact congrArg (SV.v (.i .i64)) (bad (by omega)).symm
   |false=>
    have h1': ¬ ((c.toNat:Nat):Int)<48:=of_decide_eq_false h1
    iterate 2 refine Zaj rfl rfl rfl rfl (fun _=>rfl) rfl rfl ?_
    refine Zf0 (x:=c) rfl rfl rfl rfl (fun _=>rfl) (Int.natCast_nonneg i) hx rfl rfl ?_
    refine Zaj rfl rfl rfl rfl (fun _=>rfl) rfl rfl ?_
    refine ZaC rfl rfl rfl rfl rfl rfl rfl ?_
    refine Zah ?_
    refine And.intro (fun h2=> ?_) (fun h2=> ?_)
    ·have h2':(57:Int)<((c.toNat:Nat):Int):=of_decide_eq_true h2
     exact congrArg (SV.v (.i .i64)) (bad (by omega)).symm
    ·have h2': ¬ (57:Int)<((c.toNat:Nat):Int):=of_decide_eq_false h2
     have wi:IntKind.i64.wrap ((i:Int)+1)=((i+1:Nat):Int):=Zao (by omega) (by omega)
     refine⟨i+1,⟨hlt, ?_⟩,by show s.length-(i+1)<s.length-i;omega, ?_⟩
     ·rw[List.take_succ_eq_append_getElem hlt]
      refine hd.app ?_
      intro x hx
      rw[List.mem_singleton.1 hx,hc];omega
     ·refine Zas rfl rfl ?_ ?_
      ·exact⟨rfl,wi.symm,trivial⟩
      ·exact trivial
  ·have he:i=s.length:=by have h': ¬ (i:Int)<(s.length:Int):=of_decide_eq_false h;omega
   subst he
   rw[List.take_length]at hd
   have hdB:=Zk1.2 hd
   have hem:s.isEmpty=false:=by simpa using hne
   have large:cnB s=true→(2000:Int)<(s.length:Int)→ZaB s=2:=fun h1 h2=>by
    have hb:Nat.ble s.length 2000=false:=by
     cases hb:Nat.ble s.length 2000 with
     |false=>rfl
     |true=>have:=Nat.le_of_ble_eq_true hb;omega
    simp only[ZaB,h1,hb]
   have fine:cnB s=true→ ¬ (2000:Int)<(s.length:Int)→ZaB s=0:=fun h1 h2=>by
    simp only[ZaB,h1,Nat.ble_eq_true_of_le (show s.length≤2000 by omega)]
   have bad:cnB s=false→ZaB s=5:=fun h=>by simp only[ZaB,h]
   refine Zab (Zab (Zaa rfl ?_))
   iterate 4 refine Zaf rfl (fun _=>rfl) rfl rfl ?_
   cases h2:decide ((1:Int)<(s.length:Int))with
   |true=>
    have h2':(1:Int)<(s.length:Int):=of_decide_eq_true h2
    obtain⟨c,r,hs⟩: ∃c r,s=c::r:=by
     cases s with
     |nil=>exact absurd rfl hne
     |cons c r=>exact⟨c,r,rfl⟩
    have hd1:decide (1<s.length)=true:=decide_eq_true (by omega)
    have hcb:cnB s= !decide (((c.toNat:Nat):Int)=48):=by
     simp only[cnB,hdB,hem,hd1,Bool.true_and,Bool.not_false]
     congr 1
     rw[hs,List.head?_cons]
     by_cases h:c=48
     ·subst h;rfl
     ·have h3: ¬ ((c.toNat:Nat):Int)=48:=fun h4=>h (UInt8.toNat_inj.1 (by show c.toNat=48;omega))
      rw[decide_eq_false h3]
      simp[h]
    refine Zaj rfl rfl rfl rfl (fun _=>rfl) rfl rfl ?_
    refine Zf0 (x:=c) rfl rfl rfl rfl (fun _=>rfl) (Int.le_refl 0) (by rw[hs];rfl) rfl rfl ?_
    refine Zaj rfl rfl rfl rfl (fun _=>rfl) rfl rfl ?_
    refine ZaJ rfl rfl rfl rfl rfl rfl rfl ?_
    refine Zah ?_
    refine And.intro (fun h3=> ?_) (fun h3=> ?_)
    ·have h3':decide (((c.toNat:Nat):Int)=48)=true:=h3
     exact congrArg (SV.v (.i .i64)) (bad (by rw[hcb,h3'];rfl)).symm
    ·have h3':decide (((c.toNat:Nat):Int)=48)=false:=h3
     refine And.intro (fun h4=> ?_) (fun h4=> ?_)
     ·have h4':(2000:Int)<(s.length:Int):=of_decide_eq_true h4
      exact congrArg (SV.v (.i .i64)) (large (by rw[hcb,h3'];rfl) h4').symm
     ·have h4': ¬ (2000:Int)<(s.length:Int):=of_decide_eq_false h4
      exact congrArg (SV.v (.i .i64)) (fine (by rw[hcb,h3'];rfl) h4').symm
   |false=>
    have h2': ¬ (1:Int)<(s.length:Int):=of_decide_eq_false h2
    have hd1:decide (1<s.length)=false:=decide_eq_false (by omega)
    have hcb:cnB s=true:=by simp only[cnB,hdB,hem,hd1,Bool.true_and,Bool.false_and,Bool.not_false,Bool.and_self]
    iterate 3 refine Zai rfl rfl rfl rfl rfl rfl ?_
    refine ZaC rfl rfl rfl rfl rfl rfl rfl ?_
    refine Zah ?_
    refine And.intro (fun h'=>nomatch h') (fun _=> ?_)
    refine And.intro (fun h4=> ?_) (fun h4=> ?_)
    ·have h4':(2000:Int)<(s.length:Int):=of_decide_eq_true h4
     omega
    ·exact congrArg (SV.v (.i .i64)) (fine hcb (by omega)).symm
 ·exact⟨Nat.zero_le _,fun c hc=>by simp at hc⟩
 ·refine Zas rfl rfl ?_ ?_
  ·exact⟨rfl,rfl,trivial⟩
  ·exact trivial
set_option maxHeartbeats 4000000 in
theorem Zpe (a b:List UInt8) (ha:Cn a) (hb:Cn b) (hla:a.length≤9223372036854775806) (hlb:b.length≤9223372036854775806):PureOK Tryz.prog Zaw 61 [.v .s a, .v .s b] (fun V=>V= .v (.i .i64) ((dec a:Int)-(dec b:Int)).sign):=by
 refine Zak Zal Tryz.func61 ?_
 have neg:dec a<dec b→((dec a:Int)-(dec b:Int)).sign= -1:=fun h=>Int.sign_eq_neg_one_of_neg (by omega)
 have pos:dec b<dec a→((dec a:Int)-(dec b:Int)).sign=1:=fun h=>Int.sign_eq_one_of_pos (by omega)
 refine And.intro (fun h=> ?_) (fun h=> ?_)
 ·have h':(a.length:Int)<(b.length:Int):=of_decide_eq_true h
  exact congrArg (SV.v (.i .i64)) (neg (ZhV ha hb (by omega))).symm
 have h1: ¬ (a.length:Int)<(b.length:Int):=of_decide_eq_false h
 refine And.intro (fun h=> ?_) (fun h=> ?_)
 ·have h':(b.length:Int)<(a.length:Int):=of_decide_eq_true h
  exact congrArg (SV.v (.i .i64)) (pos (ZhV hb ha (by omega))).symm
 have h2: ¬ (b.length:Int)<(a.length:Int):=of_decide_eq_false h
 have hl:a.length=b.length:=by omega
 have hbd:=ZfS ha.2.1 hb.2.1 hl
 refine And.intro (fun h=> ?_) (fun h=> ?_)
 ·have h':Op.bytesLess a b=true:=h
  exact congrArg (SV.v (.i .i64)) (neg (hbd.1 h')).symm
 have h3: ¬dec a<dec b:=fun h4=>by
  have h':Op.bytesLess a b=false:=h
  rw[hbd.2 h4]at h';cases h'
 have hbl:Op.bytesLess a b=false:=h
 refine And.intro (fun h=> ?_) (fun h=> ?_)
 ·have h':(!(Op.bytesLess a b||a==b))=true:=h
  rw[hbl,Bool.false_or]at h'
  have hne:a≠b:=by simpa using h'
  have:dec a≠dec b:=fun e=>hne (ha.inj hb e)
  exact congrArg (SV.v (.i .i64)) (pos (by omega)).symm
 ·have h':(!(Op.bytesLess a b||a==b))=false:=h
  rw[hbl,Bool.false_or]at h'
  have he:a=b:=by simpa using h'
  subst he
  exact congrArg (SV.v (.i .i64)) (by simp:(0:Int)=((dec a:Int)-(dec a:Int)).sign)
set_option maxHeartbeats 4000000 in
theorem Zdb (s:List UInt8) (k:Nat) (hd:Dg s) (hl:s.length≤1000000000) (hk:k≤1000000000):PureOK Tryz.prog Zaw 114 [.v .s s, .v (.i .i64) (k:Int)] (fun V=>V= .v (.i .i64) ((dec s/10^k % 10:Nat):Int)):=by
 refine Zak Zal Tryz.func114 ?_
 refine And.intro (fun h=> ?_) (fun h=> ?_)
 ·have hlt:k<s.length:=by have h':(k:Int)<(s.length:Int):=of_decide_eq_true h;omega
  have hi:s.length-1-k<s.length:=by omega
  obtain⟨c,hc⟩: ∃c,s[s.length-1-k]=c:=⟨_,rfl⟩
  have e1:IntKind.i64.wrap (IntKind.i64.wrap ((s.length:Int)-1)-(k:Int))=((s.length-1-k:Nat):Int):=by rw[Zao (x:=(s.length:Int)-1) (by omega) (by omega),Zao (by omega) (by omega)];omega
  have hdg:=hd _ (List.getElem_mem hi)
  have hv:=ZrZ hd hlt
  rw[hc]at hdg hv
  have j1:=j0 _ _ e1 (by omega)
  refine⟨c,j1,by rw[e1,Int.toNat_natCast,List.getElem?_eq_getElem hi,hc], ?_⟩
  refine congrArg (SV.v (.i .i64)) (?_:IntKind.i64.wrap (IntKind.u8.wrap (((c.toNat:Nat):Int)-48))=_)
  have e2:IntKind.u8.wrap (((c.toNat:Nat):Int)-48)=((c.toNat-48:Nat):Int):=by
   rw[ZdW (by omega) (by omega)];omega
  rw[e2,Zao (by omega) (by omega),hv]
 ·have hge:s.length≤k:=by have h': ¬ (k:Int)<(s.length:Int):=of_decide_eq_false h;omega
  exact congrArg (SV.v (.i .i64)) (by rw[Zbh hd hge];rfl)
set_option maxHeartbeats 4000000 in
theorem Zkp (s:List UInt8) (hd:Dg s) (hne:s≠ []) (hl:s.length≤9223372036854775806):PureOK Tryz.prog Zaw 153 [.v .s s] (fun V=>V= .v .s (decDigits (dec s))):=by
 refine Zak Zal Tryz.func153 ?_
 refine Zaz Zal rfl (fun(r:List UInt8)=> [(0, .v .s r)]) (fun _=> [])
  (fun r=>Dg r∧r≠ []∧dec r=dec s∧r.length≤s.length) (fun r=>r.length) ?_ s ?_ ?_
 ·rintro r ⟨h1,h2,h3,h4⟩
  obtain⟨c,t,rfl⟩: ∃c t,r=c::t:=by
   cases r with
   |nil=>exact absurd rfl h2
   |cons c t=>exact⟨c,t,rfl⟩
  have done:(1<(c::t).length→c≠48)→SV.v .s (c::t)= .v .s (decDigits (dec s)):=fun h=>by
   have hc:Cn (c::t):=⟨by simp,h1,fun hl h'=>h hl (by simpa using h')⟩
   rw[←h3,hc.eq]
  refine Zab (Zab (Zaa rfl ?_))
  iterate 4 refine Zaf rfl (fun _=>rfl) rfl rfl ?_
  cases hb:decide ((1:Int)<((c::t).length:Int))with
  |true=>
   have hlen:(1:Int)<((c::t).length:Int):=of_decide_eq_true hb
   refine Zaj rfl rfl rfl rfl (fun _=>rfl) rfl rfl ?_
   refine Zf0 (x:=c) rfl rfl rfl rfl (fun _=>rfl) (Int.le_refl 0) rfl rfl rfl ?_
   refine Zaj rfl rfl rfl rfl (fun _=>rfl) rfl rfl ?_
   refine ZaJ rfl rfl rfl rfl rfl rfl rfl ?_
   refine Zah ?_
   refine And.intro (fun h=> ?_) (fun h=> ?_)
   ·have hc:c=48:=UInt8.toNat_inj.1 (by have h':((c.toNat:Nat):Int)=48:=of_decide_eq_true h;show c.toNat=48;omega)
    subst hc
    refine And.intro ⟨by decide,Int.le_of_lt hlen⟩ ?_
    have ht:t≠ []:=by rintro rfl;simp at hlen
    have et:t=List.drop (Int.toNat 1) (List.take ((48:UInt8)::t).length (48::t)):=by rw[List.take_length];rfl
    refine⟨t,⟨fun x hx=>h1 x (List.mem_cons_of_mem _ hx),ht,by rw[←h3,Zb7];simp,by have:=h4;simp at this;omega⟩,by show t.length<(48::t).length;simp, ?_⟩
    refine Zas rfl rfl ?_ ?_
    ·exact⟨et,trivial⟩
    ·exact trivial
   ·have hc:c≠48:=by
     rintro rfl
     exact absurd rfl (of_decide_eq_false h: ¬ (((48:UInt8).toNat:Nat):Int)=48)
    exact done fun _=>hc
  |false=>
   have hlen: ¬ (1:Int)<((c::t).length:Int):=of_decide_eq_false hb
   iterate 3 refine Zai rfl rfl rfl rfl rfl rfl ?_
   refine ZaC rfl rfl rfl rfl rfl rfl rfl ?_
   refine Zah ?_
   refine And.intro (fun h'=>nomatch h') (fun _=> ?_)
   exact done fun h=>by omega
 ·exact⟨hd,hne,rfl,Nat.le_refl _⟩
 ·refine Zas rfl rfl ?_ ?_
  ·exact⟨rfl,trivial⟩
  ·exact trivial
set_option maxHeartbeats 4000000 in
theorem ZnO (l:List Int) (hd:D9 l) (hl:l.length≤1000000):PureOK Tryz.prog Zaw 115 [.v (.l (.i .i64)) l] (fun V=>V= .v .s (decDigits (dv l).toNat)):=by
 refine Zak Zal Tryz.func115 ?_
 have w2:0≤(l.length:Int)∧(l.length:Int)≤l.length∧(1:Int)*l.length≤281474976710656∧(l.length:Int)<9223372036854775808:=by omega
 have w3:l.length=(l.length:Int).toNat:=(Int.toNat_natCast _).symm
 refine And.intro w2 ?_
 refine Zaz Zal rfl (fun(t:Nat×List Int)=> [(0, .v (.l (.i .i64)) l),(3, .ref 0 0 l.length none),(9, .v (.l (.i .i64)) l),(10, .v (.i .i64) (l.length:Int)),(11, .v (.i .i64) (t.1:Int))]) (fun t=> [.row (.i .u8) t.2 true])
  (fun t=>t.1≤l.length∧t.2.length=l.length∧t.2.drop (l.length-t.1)=((l.take t.1).reverse.map fun d=>48+d)) (fun t=>l.length-t.1) ?_ (0,List.replicate l.length 0) ?_ ?_
 ·rintro⟨i,b⟩ ⟨hi,hbl,hb⟩
  simp only at hi hbl hb
  refine And.intro (fun h=> ?_) (fun h=> ?_)
  ·have hlt:i<l.length:=by have h':(i:Int)<(l.length:Int):=of_decide_eq_true h;omega
   have hdi:=hd _ (List.getElem_mem hlt)
   obtain⟨d,ed⟩: ∃d,l[i]=d:=⟨_,rfl⟩
   rw[ed]at hdi
   have e1:IntKind.i64.wrap (IntKind.i64.wrap ((l.length:Int)-1)-(i:Int))=((l.length-1-i:Nat):Int):=by rw[Zao (x:=(l.length:Int)-1) (by omega) (by omega),Zao (by omega) (by omega)];omega
   have hj:l.length-1-i<b.length:=by omega
   have b1:(0:Int)≤IntKind.i64.wrap (IntKind.i64.wrap ((l.length:Int)-1)-(i:Int))∧IntKind.i64.wrap (IntKind.i64.wrap ((l.length:Int)-1)-(i:Int))<(l.length:Int):=by rw[e1];omega
   refine⟨d,Int.natCast_nonneg i,by rw[Int.toNat_natCast,List.getElem?_eq_getElem hlt,ed], ?_⟩
   refine And.intro b1 ?_
   refine Exists.intro (b[l.length-1-i]) (And.intro (by show b[0+(IntKind.i64.wrap (IntKind.i64.wrap ((l.length:Int)-1)-(i:Int))).toNat]? =_;rw[e1,Nat.zero_add,Int.toNat_natCast];exact List.getElem?_eq_getElem hj) ?_)
   have ev:IntKind.u8.wrap (IntKind.i64.wrap (48+d))=48+d:=by rw[Zao (by omega) (by omega)];exact ZdW (by omega) (by omega)
   have er:b.set (l.length-1-i) (48+d)=b.set (0+(IntKind.i64.wrap (IntKind.i64.wrap ((l.length:Int)-1)-(i:Int))).toNat) (IntKind.u8.wrap (IntKind.i64.wrap (48+d))):=by rw[ev,e1,Nat.zero_add,Int.toNat_natCast]
   have wi:IntKind.i64.wrap ((i:Int)+1)=((i+1:Nat):Int):=Zao (by omega) (by omega)
   refine⟨(i+1,b.set (l.length-1-i) (48+d)),⟨hlt,by show(b.set _ _).length=_;rw[List.length_set];exact hbl, ?_⟩,by show l.length-(i+1)<l.length-i;omega, ?_⟩
   ·show(b.set (l.length-1-i) (48+d)).drop (l.length-(i+1))=_
    rw[show l.length-(i+1)=l.length-1-i by omega,List.drop_eq_getElem_cons (by rw[List.length_set];omega),List.getElem_set_self,List.drop_set_of_lt (by omega),show l.length-1-i+1=l.length-i by omega,hb,List.take_succ_eq_append_getElem hlt,ed]
    simp
   ·refine Zas rfl rfl ?_ ?_
    ·exact⟨rfl,⟨rfl,rfl,rfl⟩,rfl,rfl,wi.symm,trivial⟩
    ·exact⟨⟨er,fun _=>rfl⟩,trivial⟩
  ·have he:i=l.length:=by have h': ¬ (i:Int)<(l.length:Int):=of_decide_eq_false h;omega
   subst he
   rw[Nat.sub_self,List.drop_zero,List.take_length]at hb
   have hs:sub b 0 l.length=b:=by rw[sub,List.drop_zero,List.take_of_length_le (by omega)]
   obtain⟨c1,c2,c3⟩:=Zmf hd
   have hby:Zii b=Zhe l:=by rw[hb,Zii,Zhe,List.map_map];rfl
   refine And.intro (by show 0+l.length≤b.length;omega) ?_
   refine And.intro (by show([48]:List UInt8).length+(Zii (sub b 0 l.length)).length≤_;rw[hs,hby,c3];simp;omega) ?_
   have hst:=Zkp (48::Zhe l) (fun c hc=>by
    rcases List.mem_cons.1 hc with rfl|hc
    ·decide
    ·exact c1 c hc) (by simp) (by rw[List.length_cons,c3];omega)
   rw[Zi4 c1]at hst
   have e5:(dv l).toNat=dec (Zhe l):=by rw[←c2,Int.toNat_natCast]
   have e6:[48]++Zii (sub b 0 l.length)=48::Zhe l:=by rw[hs,hby];rfl
   rw[←e6,←e5]at hst
   refine hst.mono ?_
   rintro _ rfl
   rfl
 ·refine⟨Nat.zero_le _,by simp, ?_⟩
  show(List.replicate l.length (0:Int)).drop (l.length-0)=_
  rw[List.drop_of_length_le (by simp)]
  simp
 ·refine Zas rfl rfl ?_ ?_
  ·exact⟨rfl,⟨rfl,w3,w3⟩,rfl,rfl,rfl,trivial⟩
  ·exact⟨⟨(by show List.replicate l.length (0:Int)=List.replicate ((l.length:Int).toNat) 0;rw[←w3]),fun _=>rfl⟩,trivial⟩
end Go.Proofs.YtdnodlkdndfplaaGreatDoor
