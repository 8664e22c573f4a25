/-
 The package rat: CheckAll, Add, Sub, Mul, Div, Neg, Compare, Sign, Of.
-/
import Derived.Test.YtdnodlkdndfplaaGreatDoorQ6
set_option linter.constructorNameAsVariable false
set_option linter.unusedSimpArgs false
set_option linter.unusedVariables false
namespace Go.Proofs.YtdnodlkdndfplaaGreatDoor
open Go.Am Go.Tx Dv Go.Lib
set_option maxRecDepth 100000
set_option maxHeartbeats 4000000 in
theorem ZoU (l:List (List UInt8)) (hl:l.length≤1000000) (hs: ∀a∈l,a.length≤9223372036854775806):PureOK Tryz.prog Zat 101 [.v (.l .s) l] (fun V=>V= .v (.i .i64) (ZeF l)):=by
 refine Zak Zal Tryz.func101 ?_
 refine Zaw Zal rfl (fun(i:Nat)=> [(0, .v (.l .s) l),(6, .v (.l .s) l),(7, .v (.i .i64) (l.length:Int)),(8, .v (.i .i64) (i:Int))]) (fun _=> [])
  (fun i=>i≤l.length∧ZeF (l.drop i)=ZeF l) (fun i=>l.length-i) ?_ 0 ?_ ?_
 ·rintro i ⟨hi,he⟩
  refine And.intro (fun h=> ?_) (fun h=> ?_)
  ·have hlt:i<l.length:=by have h':(i:Int)<(l.length:Int):=of_decide_eq_true h;omega
   obtain⟨x,hx⟩: ∃x,l[i]=x:=⟨_,rfl⟩
   have gx:l[(i:Int).toNat]? =some x:=by rw[Int.toNat_natCast,List.getElem?_eq_getElem hlt,hx]
   have hxl:=hs x (hx▸List.getElem_mem hlt)
   rw[List.drop_eq_getElem_cons hlt,hx,ZeF]at he
   refine⟨x,Int.natCast_nonneg i,gx, ?_⟩
   refine(ZnP x hxl).mono ?_
   rintro _ rfl
   refine And.intro (fun h2=> ?_) (fun h2=> ?_)
   ·have h2':(!decide (ZaP x=0))=true:=h2
    have hd:decide (ZaP x=0)=false:=by cases hd:decide (ZaP x=0)<;>simp[hd]at h2'⊢
    rw[hd]at he
    exact congrArg (SV.v (.i .i64)) he
   ·have h2':(!decide (ZaP x=0))=false:=h2
    have hd:decide (ZaP x=0)=true:=by cases hd:decide (ZaP x=0)<;>simp[hd]at h2'⊢
    rw[hd]at he
    have wi:IntKind.i64.wrap ((i:Int)+1)=((i+1:Nat):Int):=Zan (by omega) (by omega)
    refine⟨i+1,⟨hlt,he⟩,by show l.length-(i+1)<l.length-i;omega, ?_⟩
    refine Zap rfl rfl ?_ ?_
    ·exact⟨rfl,rfl,rfl,wi.symm,trivial⟩
    ·exact trivial
  ·have hi2:i=l.length:=by have h': ¬ (i:Int)<(l.length:Int):=of_decide_eq_false h;omega
   rw[List.drop_of_length_le (by omega)]at he
   exact congrArg (SV.v (.i .i64)) he
 ·exact⟨Nat.zero_le _,rfl⟩
 ·refine Zap rfl rfl ?_ ?_
  ·exact⟨rfl,rfl,rfl,rfl,trivial⟩
  ·exact trivial
set_option maxHeartbeats 4000000 in
theorem Zui (q:Rat):PureOK Tryz.prog Zat 74 [QR q] (fun V=> ∃X,V= .tup [.v .s X, .v .b (Zeu q)]∧(Zeu q=true→X=Zbi q)):=by
 refine Zak Zal Tryz.func74 ?_
 have hN:=Zm6 q.num
 have hD:=Zm6 (q.den:Int)
 obtain⟨n1,n2⟩:=ZmV q.num
 obtain⟨d1,d2⟩:=ZmV (q.den:Int)
 have ln:=Zk5 (decide (q.num<0)) (wOf q.num.natAbs)
 have ld:=Zk5 (decide ((q.den:Int)<0)) (wOf (q.den:Int).natAbs)
 have hfit:Zeu q=(Zci (wOf q.num.natAbs)&&Zci (wOf (q.den:Int).natAbs)):=by
  rw[n1,d1,Int.natAbs_natCast]
  rfl
 rw[←n1]at n2
 rw[←d1,decide_eq_false (by omega: ¬ (q.den:Int)<0)]at d2
 rw[decide_eq_false (by omega: ¬ (q.den:Int)<0)]at ld hD
 obtain⟨t1,e1⟩: ∃x,ZcH (decide (q.num<0)) (wOf q.num.natAbs)=x:=⟨_,rfl⟩
 obtain⟨f1,g1⟩: ∃x,Zci (wOf q.num.natAbs)=x:=⟨_,rfl⟩
 obtain⟨t2,e2⟩: ∃x,ZcH false (wOf (q.den:Int).natAbs)=x:=⟨_,rfl⟩
 obtain⟨f2,g2⟩: ∃x,Zci (wOf (q.den:Int).natAbs)=x:=⟨_,rfl⟩
 have hD:PureOK Tryz.prog Zat 126 [IS (q.den:Int)] (fun V=>V= .tup [.v .s (ZcH false (wOf (q.den:Int).natAbs)), .v .b (Zci (wOf (q.den:Int).natAbs))]):=by
  have:=Zm6 (q.den:Int)
  refine this.mono ?_
  rintro _ rfl
  rw[decide_eq_false (by omega: ¬ (q.den:Int)<0)]
 rw[e1,g1]at hN n2
 rw[e2,g2]at hD d2
 rw[g1,g2]at hfit
 rw[e1]at ln
 rw[e2]at ld
 rw[Int.natAbs_natCast]at d2
 have hr:Zbi q=mns (decide (q.num<0)) (decDigits q.num.natAbs++Zbk q.den):=rfl
 obtain⟨m,hm⟩: ∃m,decide (q.num<0)=m:=⟨_,rfl⟩
 have n3:f1=true→t1=mns m (decDigits q.num.natAbs):=fun h=>by rw[n2 h,hm]
 rw[hm]at hr
 rw[hfit]
 refine And.intro rfl ?_
 refine hN.mono ?_
 rintro _ rfl
 cases f1 with
 |false=>
  refine And.intro (fun _=> ?_) (fun h=>nomatch h)
  exact⟨[],rfl,fun h=>nomatch h⟩
 |true=>
  have n3:=n3 rfl
  refine And.intro (fun h=>nomatch h) (fun _=> ?_)
  refine And.intro rfl ?_
  refine hD.mono ?_
  rintro _ rfl
  refine And.intro (fun h=> ?_) (fun h=> ?_)
  ·have h':t2=[49]:=eq_of_beq h
   refine⟨t1,rfl,fun hf=> ?_⟩
   have hf:f2=true:=hf
   have h3:=d2 hf
   have h4:decDigits q.den=[49]:=h3.symm.trans h'
   have h5:q.den=1:=(ZtL (ZaV q.den)).2 h4|>fun h=>by rw[Zav]at h;exact h
   rw[hr,n3,Zbk,decide_eq_true h5,List.append_nil]
  ·have h': ¬t2=[49]:=fun e=>by rw[e]at h;cases h
   refine And.intro (by show t1.length+1≤9223372036854775807;omega) ?_
   refine And.intro (by show(t1++ [47]).length+t2.length≤9223372036854775807;rw[List.length_append];simp only[List.length_singleton];omega) ?_
   refine⟨t1++ [47]++t2,rfl,fun hf=> ?_⟩
   have hf:f2=true:=hf
   have h3:=d2 hf
   have h5: ¬q.den=1:=fun e=>h' (by rw[h3,e];exact decDigits_one (by decide))
   rw[hr,n3,Zbk,decide_eq_false h5,h3]
   cases m<;>simp[mns]
theorem Zm9 (m:Bool) (n:Nat) (hl:(decDigits n).length≤300000):PureOK Tryz.prog Zat 109 [.v .s (mns m (decDigits n))] (fun V=>V=IS (sg m (n:Int))):=by
 have h:=ZqN m (decDigits n) (ZaI n) hl
 rw[Zav]at h
 have e:ZrI m (decDigits n)=mns m (decDigits n):=by cases m<;>rfl
 rw[e]at h
 exact h
set_option maxHeartbeats 4000000 in
theorem Zrn (q:Rat) (h:Zeu q=true):PureOK Tryz.prog Zat 49 [.v .s (Zbi q)] (fun V=>V=QR q):=by
 obtain⟨h1,h2⟩:=Zei.1 h
 have hl:=ZuL h
 have hC:=ZvF (Zbi q) 47 (by omega)
 have hc:ZcJ (Zbi q) 47=match decide (q.den=1)with
  |true=>(mns (decide (q.num<0)) (decDigits q.num.natAbs),[],false)
  |false=>(mns (decide (q.num<0)) (decDigits q.num.natAbs),decDigits q.den,true):=Zut _ _ _
 have hN:=Zm9 (decide (q.num<0)) q.num.natAbs (by omega)
 rw[Zk2]at hN
 have hD:=Zm9 false q.den (by omega)
 refine Zak Zal Tryz.func49 ?_
 cases hd:decide (q.den=1)with
 |true=>
  rw[hd]at hc
  simp only at hc
  rw[hc]at hC
  have h1:q.den=1:=of_decide_eq_true hd
  refine hC.mono ?_
  rintro _ rfl
  refine And.intro (fun _=> ?_) (fun h=>nomatch h)
  refine hN.mono ?_
  rintro _ rfl
  refine(ZwL 1 (by decide) (by decide)).mono ?_
  rintro _ rfl
  refine And.intro rfl ?_
  refine And.intro rfl ?_
  show QS q.num ((1:Nat):Int)=QS q.num (q.den:Int)
  rw[h1]
 |false=>
  rw[hd]at hc
  simp only at hc
  rw[hc]at hC
  refine hC.mono ?_
  rintro _ rfl
  refine And.intro (fun h=>nomatch h) (fun _=> ?_)
  refine hN.mono ?_
  rintro _ rfl
  refine hD.mono ?_
  rintro _ rfl
  refine And.intro rfl ?_
  refine And.intro rfl ?_
  rfl
end Go.Proofs.YtdnodlkdndfplaaGreatDoor
/-
 The reference's decimal arithmetic in plain Lean: digits, the least one first.
-/
namespace Dv
open Go Go.Lib
def dv:List Int→Int
 | []=>0
 |d::l=>d+10*dv l
theorem Zil: ∀ (l:List Int) (d:Int),dv (l++ [d])=dv l+10^l.length*d
 | [],d=>by simp[dv]
 |x::l,d=>by
  simp only[List.cons_append,dv,Zil l d,List.length_cons,Int.pow_succ]
  grind
def D9 (l:List Int):Prop:= ∀d∈l,0≤d∧d≤9
theorem ZkQ: ∀ {l:List Int},(∀d∈l,0≤d)→0≤dv l
 | [],_=>Int.le_refl _
 |x::l,h=>by
  have h1:=h x List.mem_cons_self
  have h2:=ZkQ (l:=l) fun y hy=>h y (List.mem_cons_of_mem _ hy)
  simp only[dv];omega
theorem Zv2: ∀ {l:List Int},D9 l→dv l<10^l.length
 | [],_=>by simp[dv]
 |x::l,h=>by
  have h1:=h x List.mem_cons_self
  have h2:=Zv2 (l:=l) fun y hy=>h y (List.mem_cons_of_mem _ hy)
  simp only[dv,List.length_cons,Int.pow_succ];omega
theorem Zvs {l:List Int} {i:Nat} (h:i<l.length):dv (l.take (i+1))=dv (l.take i)+10^i*l[i]:=by
 rw[List.take_succ_eq_append_getElem h,Zil,List.length_take,Nat.min_eq_left (Nat.le_of_lt h)]
theorem Zne: ∀ {l:List Int} {i:Nat} {x:Int} (h:i<l.length),dv (l.set i x)=dv l+10^i*(x-l[i])
 | [],i,x,h=>by simp at h
 |y::l,0,x,_=>by simp only[List.set_cons_zero,dv,List.getElem_cons_zero,Int.pow_zero];omega
 |y::l,i+1,x,h=>by
  have ih:=Zne (l:=l) (i:=i) (x:=x) (by simpa using h)
  simp only[List.set_cons_succ,dv,List.getElem_cons_succ,ih,Int.pow_succ]
  grind
def ZgF (l:List Int):List UInt8:=l.reverse.map fun d=>UInt8.ofNat (48+d).toNat
theorem Zki: ∀ {l:List Int},D9 l→Dg (ZgF l)∧((dec (ZgF l):Nat):Int)=dv l∧(ZgF l).length=l.length
 | [],_=>⟨fun c hc=>by simp[ZgF]at hc,rfl,rfl⟩
 |d::l,h=>by
  have h1:=h d List.mem_cons_self
  obtain⟨h2,h3,h4⟩:=Zki (l:=l) fun y hy=>h y (List.mem_cons_of_mem _ hy)
  have e:ZgF (d::l)=ZgF l++ [UInt8.ofNat (48+d).toNat]:=by simp[ZgF]
  have e2:(48+d).toNat=48+d.toNat:=by omega
  have e3:(UInt8.ofNat (48+d).toNat).toNat=48+d.toNat:=by rw[e2];exact ZcP (by omega)
  rw[e]
  refine⟨h2.app ?_, ?_,by simp[h4]⟩
  ·intro c hc
   rw[List.mem_singleton.1 hc,e3];omega
  ·rw[Zef,e3,Int.natCast_add,Int.natCast_mul,h3]
   simp only[dv]
   omega
theorem ZqJ {s:List UInt8} (h:Dg s) {k:Nat} (hk:k<s.length):(s[s.length-1-k]'(by omega)).toNat-48=dec s/10^k % 10:=by
 have e:s=s.take (s.length-1-k)++(s[s.length-1-k]'(by omega)::s.drop (s.length-1-k+1)):=by
  rw[←List.drop_eq_getElem_cons,List.take_append_drop]
 have hd:Dg (s.drop (s.length-1-k+1)):=fun c hc=>h c (List.mem_of_mem_drop hc)
 have hl:(s.drop (s.length-1-k+1)).length=k:=by rw[List.length_drop];omega
 have hlt:=Zbl hd
 rw[hl]at hlt
 have hc:=h _ (List.getElem_mem (show s.length-1-k<s.length by omega))
 have hv:dec s=(dec (s.take (s.length-1-k))*10+((s[s.length-1-k]'(by omega)).toNat-48))*10^k+dec (s.drop (s.length-1-k+1)):=by
  conv=>lhs;rw[e]
  rw[Zjg,Zb3,List.length_cons,hl,Nat.pow_succ]
  grind
 rw[hv,Nat.add_comm,Nat.add_mul_div_right _ _ (Nat.pow_pos (by decide)),Nat.div_eq_of_lt hlt,Nat.zero_add]
 omega
theorem Zbc {s:List UInt8} (h:Dg s) {k:Nat} (hk:s.length≤k):dec s/10^k % 10=0:=by
 have h1:=Zbl h
 have h2:=Nat.pow_le_pow_right (show 0<10 by decide) hk
 rw[Nat.div_eq_of_lt (by omega)]
theorem Zb5 (n k:Nat):n % 10^(k+1)=n % 10^k+10^k*(n/10^k % 10):=by
 rw[Nat.pow_succ,Nat.mod_mul]
end Dv
