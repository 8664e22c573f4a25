/-
 The package rat: CheckAll, Add, Sub, Mul, Div, Neg, Compare, Sign, Of.
-/
import Derived.Test.YtkhpbclcfldhmaaGreatDoorQ4
set_option linter.constructorNameAsVariable false
set_option linter.unusedSimpArgs false
set_option linter.unusedVariables false
namespace Go.Proofs.YtkhpbclcfldhmaaGreatDoor
open Go.Am Go.Tx Dv Go.Lib
set_option maxRecDepth 100000
set_option maxHeartbeats 4000000 in
theorem ZpF (l:List (List UInt8)) (hl:l.length≤1000000) (hs: ∀a∈l,a.length≤9223372036854775806):PureOK Tryz.prog Zao 42 [.v (.l .s) l] (fun V=>V= .v (.i .i64) (Znh l)):=by
 refine Zae Zah Tryz.func42 ?_
 refine Zaz Zah rfl (fun(i:Nat)=> [(0, .v (.l .s) l),(6, .v (.l .s) l),(7, .v (.i .i64) (l.length:Int)),(8, .v (.i .i64) (i:Int))]) (fun _=> [])
  (fun i=>i≤l.length∧Znh (l.drop i)=Znh l) (fun i=>l.length-i) ?_ 0 ?_ ?_
 ·rintro i ⟨hi,he⟩
  refine And.intro (fun h=> ?_) (fun h=> ?_)
  ·have hlt:i<l.length:=by have h':(i:Int)<(l.length:Int):=of_decide_eq_true h;omega
   obtain⟨x,hx⟩: ∃x,l[i]=x:=⟨_,rfl⟩
   have gx:l[(i:Int).toNat]? =some x:=by rw[Int.toNat_natCast,List.getElem?_eq_getElem hlt,hx]
   have hxl:=hs x (hx▸List.getElem_mem hlt)
   rw[List.drop_eq_getElem_cons hlt,hx,Znh]at he
   refine⟨x,Int.natCast_nonneg i,gx, ?_⟩
   refine(ZoM x hxl).mono ?_
   rintro _ rfl
   refine And.intro (fun h2=> ?_) (fun h2=> ?_)
   ·have h2':(!decide (ZbK x=0))=true:=h2
    have hd:decide (ZbK x=0)=false:=by cases hd:decide (ZbK x=0)<;>simp[hd]at h2'⊢
    rw[hd]at he
    exact congrArg (SV.v (.i .i64)) he
   ·have h2':(!decide (ZbK x=0))=false:=h2
    have hd:decide (ZbK x=0)=true:=by cases hd:decide (ZbK x=0)<;>simp[hd]at h2'⊢
    rw[hd]at he
    have wi:IntKind.i64.wrap ((i:Int)+1)=((i+1:Nat):Int):=Zar (by omega) (by omega)
    refine⟨i+1,⟨hlt,he⟩,by show l.length-(i+1)<l.length-i;omega, ?_⟩
    refine ZaC rfl rfl ?_ ?_
    ·exact⟨rfl,rfl,rfl,wi.symm,trivial⟩
    ·exact trivial
  ·have hi2:i=l.length:=by have h': ¬ (i:Int)<(l.length:Int):=of_decide_eq_false h;omega
   rw[List.drop_of_length_le (by omega)]at he
   exact congrArg (SV.v (.i .i64)) he
 ·exact⟨Nat.zero_le _,rfl⟩
 ·refine ZaC rfl rfl ?_ ?_
  ·exact⟨rfl,rfl,rfl,rfl,trivial⟩
  ·exact trivial
theorem Znc (a b:List UInt8) (hla:a.length≤9223372036854775806) (hlb:b.length≤9223372036854775806):PureOK Tryz.prog Zao 42 [.v (.l .s) (sub [a,b] 0 2)] (fun V=>V= .v (.i .i64) (Zw7 a b)):=by
 have h:=ZpF [a,b] (show 2≤1000000 by decide) (fun x hx=>by
  rcases List.mem_cons.1 hx with rfl|hx
  ·exact hla
  ·rcases List.mem_cons.1 hx with rfl|hx
   ·exact hlb
   ·exact absurd hx List.not_mem_nil)
 rw[Zrs]at h
 exact h
set_option maxHeartbeats 4000000 in
theorem Zrq (q:Rat):PureOK Tryz.prog Zao 40 [QR q] (fun V=> ∃X,V= .tup [.v .s X, .v .b (Ze1 q)]∧(Ze1 q=true→X=ZcH q)):=by
 refine Zae Zah Tryz.func40 ?_
 have hN:=Zo4 q.num
 have hD:=Zo4 (q.den:Int)
 obtain⟨n1,n2⟩:=ZoB q.num
 obtain⟨d1,d2⟩:=ZoB (q.den:Int)
 have ln:=Zmo (decide (q.num<0)) (wOf q.num.natAbs)
 have ld:=Zmo (decide ((q.den:Int)<0)) (wOf (q.den:Int).natAbs)
 have hfit:Ze1 q=(ZcA (wOf q.num.natAbs)&&ZcA (wOf (q.den:Int).natAbs)):=by
  rw[n1,d1,Int.natAbs_natCast]
  rfl
 rw[←n1]at n2
 rw[←d1,decide_eq_false (by omega: ¬ (q.den:Int)<0)]at d2
 rw[decide_eq_false (by omega: ¬ (q.den:Int)<0)]at ld hD
 obtain⟨t1,e1⟩: ∃x,Zc8 (decide (q.num<0)) (wOf q.num.natAbs)=x:=⟨_,rfl⟩
 obtain⟨f1,g1⟩: ∃x,ZcA (wOf q.num.natAbs)=x:=⟨_,rfl⟩
 obtain⟨t2,e2⟩: ∃x,Zc8 false (wOf (q.den:Int).natAbs)=x:=⟨_,rfl⟩
 obtain⟨f2,g2⟩: ∃x,ZcA (wOf (q.den:Int).natAbs)=x:=⟨_,rfl⟩
 have hD:PureOK Tryz.prog Zao 61 [IS (q.den:Int)] (fun V=>V= .tup [.v .s (Zc8 false (wOf (q.den:Int).natAbs)), .v .b (ZcA (wOf (q.den:Int).natAbs))]):=by
  have:=Zo4 (q.den:Int)
  refine this.mono ?_
  rintro _ rfl
  rw[decide_eq_false (by omega: ¬ (q.den:Int)<0)]
 rw[e1,g1]at hN n2
 rw[e2,g2]at hD d2
 rw[g1,g2]at hfit
 rw[e1]at ln
 rw[e2]at ld
 rw[Int.natAbs_natCast]at d2
 have hr:ZcH q=mns (decide (q.num<0)) (decDigits q.num.natAbs++ZdB q.den):=rfl
 obtain⟨m,hm⟩: ∃m,decide (q.num<0)=m:=⟨_,rfl⟩
 have n3:f1=true→t1=mns m (decDigits q.num.natAbs):=fun h=>by rw[n2 h,hm]
 rw[hm]at hr
 rw[hfit]
 refine And.intro rfl ?_
 refine hN.mono ?_
 rintro _ rfl
 cases f1 with
 |false=>
  refine And.intro (fun _=> ?_) (fun h=>nomatch h)
  exact⟨[],rfl,fun h=>nomatch h⟩
 |true=>
  have n3:=n3 rfl
  refine And.intro (fun h=>nomatch h) (fun _=> ?_)
  refine And.intro rfl ?_
  refine hD.mono ?_
  rintro _ rfl
  refine And.intro (fun h=> ?_) (fun h=> ?_)
  ·have h':t2=[49]:=eq_of_beq h
   refine⟨t1,rfl,fun hf=> ?_⟩
   have hf:f2=true:=hf
   have h3:=d2 hf
   have h4:decDigits q.den=[49]:=h3.symm.trans h'
   have h5:q.den=1:=(ZuR (ZdG q.den)).2 h4|>fun h=>by rw[Zbj]at h;exact h
   rw[hr,n3,ZdB,decide_eq_true h5,List.append_nil]
  ·have h': ¬t2=[49]:=fun e=>by rw[e]at h;cases h
   refine And.intro (by show t1.length+1≤9223372036854775807;omega) ?_
   refine And.intro (by show(t1++ [47]).length+t2.length≤9223372036854775807;rw[List.length_append];simp only[List.length_singleton];omega) ?_
   refine⟨t1++ [47]++t2,rfl,fun hf=> ?_⟩
   have hf:f2=true:=hf
   have h3:=d2 hf
   have h5: ¬q.den=1:=fun e=>h' (by rw[h3,e];exact decDigits_one (by decide))
   rw[hr,n3,ZdB,decide_eq_false h5,h3]
   cases m<;>simp[mns]
theorem Zx7 (q:Rat):PureOK Tryz.prog Zao 23 [QR q] (fun V=>V=rs (ZtF q)):=by
 refine Zae Zah Tryz.func23 ?_
 refine And.intro rfl ?_
 refine(Zrq q).mono ?_
 rintro _ ⟨X,rfl,hX⟩
 have hR:ZtF q=match Ze1 q with|true=>(ZcH q,0)|false=>([],2):=rfl
 obtain⟨f,hf⟩: ∃f,Ze1 q=f:=⟨_,rfl⟩
 rw[hf]at hX hR
 rw[hf,hR]
 cases f with
 |false=>
  refine And.intro (fun _=> ?_) (fun h=>nomatch h)
  rfl
 |true=>
  refine And.intro (fun h=>nomatch h) (fun _=> ?_)
  rw[hX rfl]
  rfl
theorem ZoK (m:Bool) (n:Nat) (hl:(decDigits n).length≤300000):PureOK Tryz.prog Zao 47 [.v .s (mns m (decDigits n))] (fun V=>V=IS (sg m (n:Int))):=by
 have h:=ZsO m (decDigits n) (ZbH n) hl
 rw[Zbj]at h
 have e:Zr4 m (decDigits n)=mns m (decDigits n):=by cases m<;>rfl
 rw[e]at h
 exact h
set_option maxHeartbeats 4000000 in
theorem ZkP (q:Rat) (h:Ze1 q=true):PureOK Tryz.prog Zao 25 [.v .s (ZcH q)] (fun V=>V=QR q):=by
 obtain⟨h1,h2⟩:=Zea.1 h
 have hl:=ZnB h
 have hC:=Zx1 (ZcH q) 47 (by omega)
 have hc:ZhH (ZcH q) 47=match decide (q.den=1)with
  |true=>(mns (decide (q.num<0)) (decDigits q.num.natAbs),[],false)
  |false=>(mns (decide (q.num<0)) (decDigits q.num.natAbs),decDigits q.den,true):=ZvX _ _ _
 have hN:=ZoK (decide (q.num<0)) q.num.natAbs (by omega)
 rw[Zx3]at hN
 have hD:=ZoK false q.den (by omega)
 refine Zae Zah Tryz.func25 ?_
 cases hd:decide (q.den=1)with
 |true=>
  rw[hd]at hc
  simp only at hc
  rw[hc]at hC
  have h1:q.den=1:=of_decide_eq_true hd
  refine hC.mono ?_
  rintro _ rfl
  refine And.intro (fun _=> ?_) (fun h=>nomatch h)
  refine hN.mono ?_
  rintro _ rfl
  refine(Zu5 1 (by decide) (by decide)).mono ?_
  rintro _ rfl
  refine And.intro rfl ?_
  refine And.intro rfl ?_
  show QS q.num ((1:Nat):Int)=QS q.num (q.den:Int)
  rw[h1]
 |false=>
  rw[hd]at hc
  simp only at hc
  rw[hc]at hC
  refine hC.mono ?_
  rintro _ rfl
  refine And.intro (fun h=>nomatch h) (fun _=> ?_)
  refine hN.mono ?_
  rintro _ rfl
  refine hD.mono ?_
  rintro _ rfl
  refine And.intro rfl ?_
  refine And.intro rfl ?_
  rfl
theorem ZuV {q:Rat} (h:Ze1 q=true):(ZcH q).length≤9223372036854775806:=by
 have:=ZnB h
 omega
theorem Zyd {p q:Rat} (hp:Ze1 p=true) (hq:Ze1 q=true):(!decide (Zw7 (ZcH p) (ZcH q)=0))=false:=by rw[ZtK hp hq];rfl
set_option maxHeartbeats 4000000 in
theorem Zyy (p q:Rat) (hp:Ze1 p=true) (hq:Ze1 q=true):PureOK Tryz.prog Zao 21 [.v .s (ZcH p), .v .s (ZcH q), .func 22 [] []] (fun V=>V=rs (ZtF (p+q))):=by
 have hn:=Zyd hp hq
 refine Zae Zah Tryz.func21 ?_
 refine And.intro (show 0+2≤2 by decide) ?_
 refine(Znc (ZcH p) (ZcH q) (ZuV hp) (ZuV hq)).mono ?_
 rintro _ rfl
 refine And.intro (fun h=>(nf h hn).elim) (fun _=> ?_)
 refine(ZkP p hp).mono ?_
 rintro _ rfl
 refine(ZkP q hq).mono ?_
 rintro _ rfl
 refine(ZrI p q (by omega:2000≤100000) (Zrb hp) (Zrb hq)).mono ?_
 rintro _ rfl
 refine(Zx7 (p+q)).mono ?_
 rintro _ rfl
 rfl
theorem Zvz (p q:Rat) (hp:Ze1 p=true) (hq:Ze1 q=true):PureOK Tryz.prog Zao 11 [.v .s (ZcH p), .v .s (ZcH q)] (fun V=>V=rs (ZtF (p+q))):=by
 refine Zae Zah Tryz.func11 ?_
 refine(Zyy p q hp hq).mono ?_
 rintro _ rfl
 rfl
def ofR (n d:Int):List UInt8×Int:=match decide (d=0)with
 |true=>([],10)
 |false=>ZtF (Rat.divInt n d)
theorem Zzp (n d:Int) (hn0: -9223372036854775808≤n) (hn1:n<9223372036854775808) (hd0: -9223372036854775808≤d) (hd1:d<9223372036854775808):PureOK Tryz.prog Zao 12 [.v (.i .i64) n, .v (.i .i64) d] (fun V=>V=rs (ofR n d)):=by
 refine Zae Zah Tryz.func12 ?_
 refine And.intro (fun h=> ?_) (fun h=> ?_)
 ·have h':decide (d=0)=true:=h
  simp only[ofR,h']
  rfl
 ·have h':decide (d=0)=false:=h
  refine(Zx8 n d hn0 hn1 hd0 hd1 (of_decide_eq_false h')).mono ?_
  rintro _ rfl
  refine(Zx7 (Rat.divInt n d)).mono ?_
  rintro _ rfl
  simp only[ofR,h']
  rfl
end Go.Proofs.YtkhpbclcfldhmaaGreatDoor
