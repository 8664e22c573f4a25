/-
 The package rat: CheckAll, Add, Sub, Mul, Div, Neg, Compare, Sign, Of.
-/
import Derived.Test.YtdnodlkdndfplaaGreatDoorQ6
set_option linter.constructorNameAsVariable false
set_option linter.unusedSimpArgs false
set_option linter.unusedVariables false
namespace Go.Proofs.YtdnodlkdndfplaaGreatDoor
open Go.Am Go.Tx Dv Go.Lib
set_option maxRecDepth 100000
set_option maxHeartbeats 4000000 in
theorem ZmE (l:List (List UInt8)) (hl:l.length≤1000000) (hs: ∀a∈l,a.length≤9223372036854775806):PureOK Tryz.prog Zau 101 [.v (.l .s) l] (fun V=>V= .v (.i .i64) (Zf7 l)):=by
 refine Zaj Zao Tryz.func101 ?_
 refine ZaC Zao rfl (fun(i:Nat)=> [(0, .v (.l .s) l),(6, .v (.l .s) l),(7, .v (.i .i64) (l.length:Int)),(8, .v (.i .i64) (i:Int))]) (fun _=> [])
  (fun i=>i≤l.length∧Zf7 (l.drop i)=Zf7 l) (fun i=>l.length-i) ?_ 0 ?_ ?_
 ·rintro i ⟨hi,he⟩
  refine And.intro (fun h=> ?_) (fun h=> ?_)
  ·have hlt:i<l.length:=by have h':(i:Int)<(l.length:Int):=of_decide_eq_true h;omega
   obtain⟨x,hx⟩: ∃x,l[i]=x:=⟨_,rfl⟩
   have gx:l[(i:Int).toNat]? =some x:=by rw[Int.toNat_natCast,List.getElem?_eq_getElem hlt,hx]
   have hxl:=hs x (hx▸List.getElem_mem hlt)
   rw[List.drop_eq_getElem_cons hlt,hx,Zf7]at he
   refine⟨x,Int.natCast_nonneg i,gx, ?_⟩
   refine(ZqU x hxl).mono ?_
   rintro _ rfl
   refine And.intro (fun h2=> ?_) (fun h2=> ?_)
   ·have h2':(!decide (ZbM x=0))=true:=h2
    have hd:decide (ZbM x=0)=false:=by cases hd:decide (ZbM x=0)<;>simp[hd]at h2'⊢
    rw[hd]at he
    exact congrArg (SV.v (.i .i64)) he
   ·have h2':(!decide (ZbM x=0))=false:=h2
    have hd:decide (ZbM x=0)=true:=by cases hd:decide (ZbM x=0)<;>simp[hd]at h2'⊢
    rw[hd]at he
    have wi:IntKind.i64.wrap ((i:Int)+1)=((i+1:Nat):Int):=Zan (by omega) (by omega)
    refine⟨i+1,⟨hlt,he⟩,by show l.length-(i+1)<l.length-i;omega, ?_⟩
    refine Zaq rfl rfl ?_ ?_
    ·exact⟨rfl,rfl,rfl,wi.symm,trivial⟩
    ·exact trivial
  ·have hi2:i=l.length:=by have h': ¬ (i:Int)<(l.length:Int):=of_decide_eq_false h;omega
   rw[List.drop_of_length_le (by omega)]at he
   exact congrArg (SV.v (.i .i64)) he
 ·exact⟨Nat.zero_le _,rfl⟩
 ·refine Zaq rfl rfl ?_ ?_
  ·exact⟨rfl,rfl,rfl,rfl,trivial⟩
  ·exact trivial
end Go.Proofs.YtdnodlkdndfplaaGreatDoor
/-
 The reference's decimal arithmetic in plain Lean: digits, the least one first.
-/
namespace Dv
open Go Go.Lib
def dv:List Int→Int
 | []=>0
 |d::l=>d+10*dv l
theorem Zq1: ∀ (l:List Int) (d:Int),dv (l++ [d])=dv l+10^l.length*d
 | [],d=>by simp[dv]
 |x::l,d=>by
  simp only[List.cons_append,dv,Zq1 l d,List.length_cons,Int.pow_succ]
  grind
def D9 (l:List Int):Prop:= ∀d∈l,0≤d∧d≤9
theorem ZsT: ∀ {l:List Int},D9 l→dv l<10^l.length
 | [],_=>by simp[dv]
 |x::l,h=>by
  have h1:=h x List.mem_cons_self
  have h2:=ZsT (l:=l) fun y hy=>h y (List.mem_cons_of_mem _ hy)
  simp only[dv,List.length_cons,Int.pow_succ];omega
def Zf9 (l:List Int):List UInt8:=l.reverse.map fun d=>UInt8.ofNat (48+d).toNat
theorem Zj0: ∀ {l:List Int},D9 l→Dg (Zf9 l)∧((dec (Zf9 l):Nat):Int)=dv l∧(Zf9 l).length=l.length
 | [],_=>⟨fun c hc=>by simp[Zf9]at hc,rfl,rfl⟩
 |d::l,h=>by
  have h1:=h d List.mem_cons_self
  obtain⟨h2,h3,h4⟩:=Zj0 (l:=l) fun y hy=>h y (List.mem_cons_of_mem _ hy)
  have e:Zf9 (d::l)=Zf9 l++ [UInt8.ofNat (48+d).toNat]:=by simp[Zf9]
  have e2:(48+d).toNat=48+d.toNat:=by omega
  have e3:(UInt8.ofNat (48+d).toNat).toNat=48+d.toNat:=by rw[e2];exact Zcp (by omega)
  rw[e]
  refine⟨h2.app ?_, ?_,by simp[h4]⟩
  ·intro c hc
   rw[List.mem_singleton.1 hc,e3];omega
  ·rw[ZdJ,e3,Int.natCast_add,Int.natCast_mul,h3]
   simp only[dv]
   omega
theorem Zpv {s:List UInt8} (h:Dg s) {k:Nat} (hk:k<s.length):(s[s.length-1-k]'(by omega)).toNat-48=dec s/10^k % 10:=by
 have e:s=s.take (s.length-1-k)++(s[s.length-1-k]'(by omega)::s.drop (s.length-1-k+1)):=by
  rw[←List.drop_eq_getElem_cons,List.take_append_drop]
 have hd:Dg (s.drop (s.length-1-k+1)):=fun c hc=>h c (List.mem_of_mem_drop hc)
 have hl:(s.drop (s.length-1-k+1)).length=k:=by rw[List.length_drop];omega
 have hlt:=ZbK hd
 rw[hl]at hlt
 have hc:=h _ (List.getElem_mem (show s.length-1-k<s.length by omega))
 have hv:dec s=(dec (s.take (s.length-1-k))*10+((s[s.length-1-k]'(by omega)).toNat-48))*10^k+dec (s.drop (s.length-1-k+1)):=by
  conv=>lhs;rw[e]
  rw[ZiS,ZbI,List.length_cons,hl,Nat.pow_succ]
  grind
 rw[hv,Nat.add_comm,Nat.add_mul_div_right _ _ (Nat.pow_pos (by decide)),Nat.div_eq_of_lt hlt,Nat.zero_add]
 omega
theorem Ziv {s:List UInt8} (h:Dg s) {k:Nat} (hk:s.length≤k):dec s/10^k % 10=0:=by
 have h1:=ZbK h
 have h2:=Nat.pow_le_pow_right (show 0<10 by decide) hk
 rw[Nat.div_eq_of_lt (by omega)]
theorem ZlP (n k:Nat):n % 10^(k+1)=n % 10^k+10^k*(n/10^k % 10):=by
 rw[Nat.pow_succ,Nat.mod_mul]
end Dv
