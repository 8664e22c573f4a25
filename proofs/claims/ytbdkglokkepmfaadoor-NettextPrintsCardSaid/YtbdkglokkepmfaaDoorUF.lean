/-
 Numbers in decimal: the reference's RatInt and dec, for numbers of a network.
-/
import Derived.Test.YtbdkglokkepmfaaDoorU6
import Derived.Test.YtbdkglokkepmfaaDoorDe
set_option linter.constructorNameAsVariable false
set_option linter.unusedSimpArgs false
set_option linter.unusedVariables false
namespace Go.Proofs.YtbdkglokkepmfaaDoor
open Go.Am Go.Tx Dv Go.Lib
set_option maxRecDepth 100000
theorem Zr7 {n k:Nat} (hk:1≤k) (h:n<10^k):(decDigits n).length≤k:=(ZnF hk).2 h
def Zus:List UInt8:=[48,49,50,51,52,53,54,55,56,57]
theorem Zq1: ∀d:Fin 10,(Zus.take (d.val+1)).drop d.val=[UInt8.ofNat (48+d.val)]:=by decide+kernel
theorem Zs9 {d:Nat} (h:d<10):(Zus.take (d+1)).drop d=[UInt8.ofNat (48+d)]:=Zq1 ⟨d,h⟩
theorem Zlu {m:Nat} (h:m≠0):decDigits m=(match decide (m/10=0)with|true=> []|false=>decDigits (m/10))++ [UInt8.ofNat (48+m % 10)]:=by
 by_cases hm:10≤m
 ·rw[decDigits.eq_1 m,dif_neg (by omega),decide_eq_false (by omega)]
 ·rw[decDigits_one (by omega),decide_eq_true (by omega),Nat.mod_eq_of_lt (by omega)]
  rfl
def Zoe (m:Nat) (s:List UInt8):List UInt8:=match s with
 | []=>decDigits m
 |_=>(match decide (m=0)with|true=> []|false=>decDigits m)++s
theorem ZnL {m:Nat} {s:List UInt8} (h:0<m∨s=[]):Zoe (m/10) (UInt8.ofNat (48+m % 10)::s)=Zoe m s:=by
 by_cases hm:m=0
 ·subst hm
  have hs:s=[]:=by rcases h with h|h<;>first|omega|exact h
  subst hs
  show(match decide (0/10=0)with|true=> []|false=>decDigits (0/10))++ [UInt8.ofNat (48+0 % 10)]=decDigits 0
  rw[decDigits_one (by decide)]
  rfl
 ·have hd:=Zlu hm
  cases s with
  |nil=>
   show(match decide (m/10=0)with|true=> []|false=>decDigits (m/10))++ [UInt8.ofNat (48+m % 10)]=decDigits m
   exact hd.symm
  |cons c l=>
   show(match decide (m/10=0)with|true=> []|false=>decDigits (m/10))++(UInt8.ofNat (48+m % 10)::c::l)=(match decide (m=0)with|true=> []|false=>decDigits m)++(c::l)
   rw[decide_eq_false hm]
   simp only
   rw[hd,List.append_assoc]
   rfl
theorem ZpM (m:Nat) (s:List UInt8):s.length≤(Zoe m s).length:=by
 cases s with
 |nil=>exact Nat.zero_le _
 |cons c l=>
  show(c::l).length≤((match decide (m=0)with|true=> []|false=>decDigits m)++(c::l)).length
  rw[List.length_append]
  omega
def emp (s:List UInt8):Nat:=match s with
 | []=>1
 |_=>0
set_option maxHeartbeats 8000000 in
theorem ZkH (n:Nat) (hn:(n:Int)<9223372036854775808):PureOK Tryd.prog Zax 35 [.v (.i .i64) (n:Int)] (fun V=>V= .v .s (decDigits n)):=by
 refine Zav Zaq Tryd.func35 ?_
 refine And.intro (fun _=> ?_) (fun h=> ?_)
 ·refine ZaB Zaq rfl (fun(t:Nat×List UInt8)=> [(0, .v (.i .i64) (t.1:Int)),(3, .v .s t.2)]) (fun _=> [])
   (fun t=>t.1≤n∧(t.2=[]→t.1=n)∧Zoe t.1 t.2=decDigits n) (fun t=>2*t.1+emp t.2) ?_ (n,[]) ?_ ?_
  ·rintro⟨m,s⟩ ⟨h1,h3,h4⟩
   simp only at h1 h3 h4
   have h2:s.length≤19:=by
    have:=ZpM m s
    rw[h4]at this
    exact Nat.le_trans this (Zr7 (by decide) (by omega))
   have step:0<m∨s=[]→ ∃m' s',(m',s')=(m/10,UInt8.ofNat (48+m % 10)::s)∧(m'≤n∧(s'=[]→m'=n)∧Zoe m' s'=decDigits n)∧2*m'+emp s'<2*m+emp s:=fun hc=>by
    refine⟨m/10,UInt8.ofNat (48+m % 10)::s,rfl,⟨by omega,fun h=>(List.cons_ne_nil _ _ h).elim,(ZnL hc).trans h4⟩, ?_⟩
    ·show 2*(m/10)+0<2*m+emp s
     rcases hc with h|h
     ·omega
     ·subst h;show 2*(m/10)+0<2*m+1;omega
   have em:(m:Int).tmod 10=((m % 10:Nat):Int):=rfl
   have wm:IntKind.i64.wrap ((m:Int).tmod 10+1)=((m % 10+1:Nat):Int):=by rw[em];exact ZgA (by omega) (by omega)
   have wq:IntKind.i64.wrap ((m:Int).tdiv 10)=((m/10:Nat):Int):=ZgA (show-9223372036854775808≤((m/10:Nat):Int)by omega) (show((m/10:Nat):Int)<9223372036854775808 by omega)
   have hsl:List.drop ((m:Int).tmod 10).toNat (List.take (IntKind.i64.wrap ((m:Int).tmod 10+1)).toNat Zus)=[UInt8.ofNat (48+m % 10)]:=by
    rw[wm,em,Int.toNat_natCast,Int.toNat_natCast]
    exact Zs9 (by omega)
   cases b1:decide ((0:Int)<(m:Int))
   rotate_left 1
   refine Zae ?_
   iterate 3 refine Zaa ?_
   refine Zai b1 ?_
   refine Zai b1 ?_
   refine Zas b1 ?_
   refine Zad ?_
   refine brT b1 ?_
   have hc:0<m∨s=[]:= .inl (by have:=of_decide_eq_true b1;omega)
   rotate_left 1
   cases b2:s==[]
   refine Zae ?_
   iterate 3 refine Zaa ?_
   refine Zac b1 ?_
   refine Zac b1 ?_
   refine Zap b1 ?_
   refine Zad ?_
   refine brF b2 ?_
   have hm0:m=0:=by have:=of_decide_eq_false b1;omega
   have e:s=decDigits n:=by
    rw[hm0]at h4
    cases s with
    |nil=>cases b2
    |cons c l=>rw[←h4];rfl
   exact congrArg (SV.v .s) e
   refine Zae ?_
   iterate 3 refine Zaa ?_
   refine Zac b1 ?_
   refine Zac b1 ?_
   refine Zap b1 ?_
   refine Zad ?_
   refine brT b2 ?_
   have hc:0<m∨s=[]:= .inr (eq_of_beq b2)
   all_goals
    obtain⟨m',s',he,hinv,hme⟩:=step hc
    cases he
    refine And.intro (by decide) ?_
    refine And.intro (by decide) ?_
    refine And.intro (show 0≤(m:Int).tmod 10∧(m:Int).tmod 10≤IntKind.i64.wrap ((m:Int).tmod 10+1)∧IntKind.i64.wrap ((m:Int).tmod 10+1)≤10 by rw[wm,em];omega) ?_
    refine And.intro (by show(List.drop ((m:Int).tmod 10).toNat (List.take (IntKind.i64.wrap ((m:Int).tmod 10+1)).toNat Zus)).length+s.length≤9223372036854775807;rw[hsl];simp only[List.length_singleton];omega) ?_
    refine And.intro (by decide) ?_
    refine⟨(m/10,UInt8.ofNat (48+m % 10)::s),hinv,hme, ?_⟩
    refine ZmP rfl rfl ?_ ?_
    ·have q:UInt8.ofNat (48+m % 10)::s=List.drop ((m:Int).tmod 10).toNat (List.take (IntKind.i64.wrap ((m:Int).tmod 10+1)).toNat Zus)++s:=by rw[hsl];rfl
     exact⟨wq.symm,q,trivial⟩
    ·exact trivial
  ·exact⟨Nat.le_refl _,fun _=>rfl,rfl⟩
  ·refine ZmP rfl rfl ?_ ?_
   ·exact⟨rfl,rfl,trivial⟩
   ·exact trivial
 ·have h': ¬0≤(n:Int):=of_decide_eq_false h
  omega
def Zid (n:Int):List UInt8:=bif decide (n<0)then 45::decDigits n.natAbs else decDigits n.natAbs
set_option maxHeartbeats 4000000 in
theorem Zrn (n:Int) (h0: -1000000≤n) (h1:n≤1000000):PureOK Tryd.prog Zax 35 [.v (.i .i64) n] (fun V=>V= .v .s (Zid n)):=by
 unfold Zid
 by_cases hn:0≤n
 ·obtain⟨k,rfl⟩: ∃k:Nat,n=k:=⟨n.toNat,by omega⟩
  refine(ZkH k (by omega)).mono ?_
  rintro _ rfl
  rw[decide_eq_false (by omega: ¬ (k:Int)<0),Int.natAbs_natCast]
  rfl
 ·rw[decide_eq_true (by omega:n<0)]
  refine Zav Zaq Tryd.func35 ?_
  refine And.intro (fun h=>absurd (show 0≤n from of_decide_eq_true h) hn) (fun _=> ?_)
  refine And.intro (fun h=> ?_) (fun h=> ?_)
  ·have h':n= -9223372036854775808:=of_decide_eq_true h
   omega
  ·have h': ¬n= -9223372036854775808:=of_decide_eq_false h
   have wn:IntKind.i64.wrap (0-n)=((n.natAbs:Nat):Int):=by
    rw[ZgA (by omega) (by omega)]
    omega
   have hR:=ZkH n.natAbs (by omega)
   rw[←wn]at hR
   refine hR.mono ?_
   rintro _ rfl
   have hl:(decDigits n.natAbs).length≤19:=Zr7 (by decide) (by omega)
   exact And.intro (by show 1+(decDigits n.natAbs).length≤9223372036854775807;omega) rfl
theorem Zu1 (n:Int) (h0: -1000000≤n) (h1:n≤1000000):PureOK Tryd.prog Zax 20 [.v (.i .i64) n] (fun V=>V= .v .s (Zid n)):=by
 refine Zav Zaq Tryd.func20 ?_
 have h:=Zrn n h0 h1
 refine Zae ?_
 refine Zaa ?_
 refine Zad ?_
 refine Zae ?_
 refine Zaa ?_
 refine Zaf rfl ((h).mono ?_)
 rintro _ rfl
 refine Zab rfl rfl ?_
 refine Zaa ?_
 refine Zad ?_
 rfl
end Go.Proofs.YtbdkglokkepmfaaDoor
