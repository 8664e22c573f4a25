/-
 Numbers in decimal: the reference's RatInt and dec, for numbers of a network.
-/
import Derived.Test.YtgngdcpglnfkeaaDoorU6
import Derived.Test.YtgngdcpglnfkeaaDoorDe
set_option linter.constructorNameAsVariable false
set_option linter.unusedSimpArgs false
set_option linter.unusedVariables false
namespace Go.Proofs.YtgngdcpglnfkeaaDoor
open Go.Am Go.Tx Dv Go.Lib
set_option maxRecDepth 100000
theorem Zt0 {n k:Nat} (hk:1≤k) (h:n<10^k):(decDigits n).length≤k:=(ZoH hk).2 h
def Zvl:List UInt8:=[48,49,50,51,52,53,54,55,56,57]
theorem Zru: ∀d:Fin 10,(Zvl.take (d.val+1)).drop d.val=[UInt8.ofNat (48+d.val)]:=by decide+kernel
theorem Zt1 {d:Nat} (h:d<10):(Zvl.take (d+1)).drop d=[UInt8.ofNat (48+d)]:=Zru ⟨d,h⟩
theorem Zme {m:Nat} (h:m≠0):decDigits m=(match decide (m/10=0)with|true=> []|false=>decDigits (m/10))++ [UInt8.ofNat (48+m % 10)]:=by
 by_cases hm:10≤m
 ·rw[decDigits.eq_1 m,dif_neg (by omega),decide_eq_false (by omega)]
 ·rw[decDigits_one (by omega),decide_eq_true (by omega),Nat.mod_eq_of_lt (by omega)]
  rfl
def ZoS (m:Nat) (s:List UInt8):List UInt8:=match s with
 | []=>decDigits m
 |_=>(match decide (m=0)with|true=> []|false=>decDigits m)++s
theorem Zn5 {m:Nat} {s:List UInt8} (h:0<m∨s=[]):ZoS (m/10) (UInt8.ofNat (48+m % 10)::s)=ZoS m s:=by
 by_cases hm:m=0
 ·subst hm
  have hs:s=[]:=by rcases h with h|h<;>first|omega|exact h
  subst hs
  show(match decide (0/10=0)with|true=> []|false=>decDigits (0/10))++ [UInt8.ofNat (48+0 % 10)]=decDigits 0
  rw[decDigits_one (by decide)]
  rfl
 ·have hd:=Zme hm
  cases s with
  |nil=>
   show(match decide (m/10=0)with|true=> []|false=>decDigits (m/10))++ [UInt8.ofNat (48+m % 10)]=decDigits m
   exact hd.symm
  |cons c l=>
   show(match decide (m/10=0)with|true=> []|false=>decDigits (m/10))++(UInt8.ofNat (48+m % 10)::c::l)=(match decide (m=0)with|true=> []|false=>decDigits m)++(c::l)
   rw[decide_eq_false hm]
   simp only
   rw[hd,List.append_assoc]
   rfl
theorem Zo7 (m:Nat) (s:List UInt8):s.length≤(ZoS m s).length:=by
 cases s with
 |nil=>exact Nat.zero_le _
 |cons c l=>
  show(c::l).length≤((match decide (m=0)with|true=> []|false=>decDigits m)++(c::l)).length
  rw[List.length_append]
  omega
def emp (s:List UInt8):Nat:=match s with
 | []=>1
 |_=>0
set_option maxHeartbeats 8000000 in
theorem ZkQ (n:Nat) (hn:(n:Int)<9223372036854775808):PureOK Tryd.prog Zaw 65 [.v (.i .i64) (n:Int)] (fun V=>V= .v .s (decDigits n)):=by
 refine Zau Zao Tryd.func65 ?_
 refine And.intro (fun _=> ?_) (fun h=> ?_)
 ·refine ZaH Zao rfl (fun(t:Nat×List UInt8)=> [(0, .v (.i .i64) (t.1:Int)),(3, .v .s t.2)]) (fun _=> [])
   (fun t=>t.1≤n∧(t.2=[]→t.1=n)∧ZoS t.1 t.2=decDigits n) (fun t=>2*t.1+emp t.2) ?_ (n,[]) ?_ ?_
  ·rintro⟨m,s⟩ ⟨h1,h3,h4⟩
   simp only at h1 h3 h4
   have h2:s.length≤19:=by
    have:=Zo7 m s
    rw[h4]at this
    exact Nat.le_trans this (Zt0 (by decide) (by omega))
   have step:0<m∨s=[]→ ∃m' s',(m',s')=(m/10,UInt8.ofNat (48+m % 10)::s)∧(m'≤n∧(s'=[]→m'=n)∧ZoS m' s'=decDigits n)∧2*m'+emp s'<2*m+emp s:=fun hc=>by
    refine⟨m/10,UInt8.ofNat (48+m % 10)::s,rfl,⟨by omega,fun h=>(List.cons_ne_nil _ _ h).elim,(Zn5 hc).trans h4⟩, ?_⟩
    ·show 2*(m/10)+0<2*m+emp s
     rcases hc with h|h
     ·omega
     ·subst h;show 2*(m/10)+0<2*m+1;omega
   have em:(m:Int).tmod 10=((m % 10:Nat):Int):=rfl
   have wm:IntKind.i64.wrap ((m:Int).tmod 10+1)=((m % 10+1:Nat):Int):=by rw[em];exact Zg0 (by omega) (by omega)
   have wq:IntKind.i64.wrap ((m:Int).tdiv 10)=((m/10:Nat):Int):=Zg0 (show-9223372036854775808≤((m/10:Nat):Int)by omega) (show((m/10:Nat):Int)<9223372036854775808 by omega)
   have hsl:List.drop ((m:Int).tmod 10).toNat (List.take (IntKind.i64.wrap ((m:Int).tmod 10+1)).toNat Zvl)=[UInt8.ofNat (48+m % 10)]:=by
    rw[wm,em,Int.toNat_natCast,Int.toNat_natCast]
    exact Zt1 (by omega)
   cases b1:decide ((0:Int)<(m:Int))
   rotate_left 1
   refine Zae ?_
   iterate 3 refine Zab ?_
   refine Zaj b1 ?_
   refine Zaj b1 ?_
   refine Zat b1 ?_
   refine Zaf ?_
   refine brT b1 ?_
   have hc:0<m∨s=[]:= .inl (by have:=of_decide_eq_true b1;omega)
   rotate_left 1
   cases b2:s==[]
   refine Zae ?_
   iterate 3 refine Zab ?_
   refine Zad b1 ?_
   refine Zad b1 ?_
   refine Zas b1 ?_
   refine Zaf ?_
   refine brF b2 ?_
   have hm0:m=0:=by have:=of_decide_eq_false b1;omega
   have e:s=decDigits n:=by
    rw[hm0]at h4
    cases s with
    |nil=>cases b2
    |cons c l=>rw[←h4];rfl
   exact congrArg (SV.v .s) e
   refine Zae ?_
   iterate 3 refine Zab ?_
   refine Zad b1 ?_
   refine Zad b1 ?_
   refine Zas b1 ?_
   refine Zaf ?_
   refine brT b2 ?_
   have hc:0<m∨s=[]:= .inr (eq_of_beq b2)
   all_goals
    obtain⟨m',s',he,hinv,hme⟩:=step hc
    cases he
    refine And.intro (by decide) ?_
    refine And.intro (by decide) ?_
    refine And.intro (show 0≤(m:Int).tmod 10∧(m:Int).tmod 10≤IntKind.i64.wrap ((m:Int).tmod 10+1)∧IntKind.i64.wrap ((m:Int).tmod 10+1)≤10 by rw[wm,em];omega) ?_
    refine And.intro (by show(List.drop ((m:Int).tmod 10).toNat (List.take (IntKind.i64.wrap ((m:Int).tmod 10+1)).toNat Zvl)).length+s.length≤9223372036854775807;rw[hsl];simp only[List.length_singleton];omega) ?_
    refine And.intro (by decide) ?_
    refine⟨(m/10,UInt8.ofNat (48+m % 10)::s),hinv,hme, ?_⟩
    refine Zbm rfl rfl ?_ ?_
    ·have q:UInt8.ofNat (48+m % 10)::s=List.drop ((m:Int).tmod 10).toNat (List.take (IntKind.i64.wrap ((m:Int).tmod 10+1)).toNat Zvl)++s:=by rw[hsl];rfl
     exact⟨wq.symm,q,trivial⟩
    ·exact trivial
  ·exact⟨Nat.le_refl _,fun _=>rfl,rfl⟩
  ·refine Zbm rfl rfl ?_ ?_
   ·exact⟨rfl,rfl,trivial⟩
   ·exact trivial
 ·have h': ¬0≤(n:Int):=of_decide_eq_false h
  omega
def ZjR (n:Int):List UInt8:=bif decide (n<0)then 45::decDigits n.natAbs else decDigits n.natAbs
set_option maxHeartbeats 4000000 in
theorem Zri (n:Int) (h0: -1000000≤n) (h1:n≤1000000):PureOK Tryd.prog Zaw 65 [.v (.i .i64) n] (fun V=>V= .v .s (ZjR n)):=by
 unfold ZjR
 by_cases hn:0≤n
 ·obtain⟨k,rfl⟩: ∃k:Nat,n=k:=⟨n.toNat,by omega⟩
  refine(ZkQ k (by omega)).mono ?_
  rintro _ rfl
  rw[decide_eq_false (by omega: ¬ (k:Int)<0),Int.natAbs_natCast]
  rfl
 ·rw[decide_eq_true (by omega:n<0)]
  refine Zau Zao Tryd.func65 ?_
  refine And.intro (fun h=>absurd (show 0≤n from of_decide_eq_true h) hn) (fun _=> ?_)
  refine And.intro (fun h=> ?_) (fun h=> ?_)
  ·have h':n= -9223372036854775808:=of_decide_eq_true h
   omega
  ·have h': ¬n= -9223372036854775808:=of_decide_eq_false h
   have wn:IntKind.i64.wrap (0-n)=((n.natAbs:Nat):Int):=by
    rw[Zg0 (by omega) (by omega)]
    omega
   have hR:=ZkQ n.natAbs (by omega)
   rw[←wn]at hR
   refine hR.mono ?_
   rintro _ rfl
   have hl:(decDigits n.natAbs).length≤19:=Zt0 (by decide) (by omega)
   exact And.intro (by show 1+(decDigits n.natAbs).length≤9223372036854775807;omega) rfl
theorem Zwl (n:Int) (h0: -1000000≤n) (h1:n≤1000000):PureOK Tryd.prog Zaw 35 [.v (.i .i64) n] (fun V=>V= .v .s (ZjR n)):=by
 refine Zau Zao Tryd.func35 ?_
 have h:=Zri n h0 h1
 refine Zae ?_
 refine Zab ?_
 refine Zaf ?_
 refine Zae ?_
 refine Zab ?_
 refine Zac rfl ((h).mono ?_)
 rintro _ rfl
 refine Zaa rfl rfl ?_
 refine Zab ?_
 refine Zaf ?_
 rfl
end Go.Proofs.YtgngdcpglnfkeaaDoor
