/-
 Decimal texts: what a text of digits is worth; the canonical text.
-/
import Derived.Lib.ItoaNum
import GoSem.Op.String
set_option linter.constructorNameAsVariable false
set_option linter.unusedSimpArgs false
set_option linter.unusedVariables false
namespace Dv
open Go Go.Lib
def Zvl:List UInt8→Nat→Nat
 | [],n=>n
 |c::s,n=>Zvl s (10*n+(c.toNat-48))
def Zmi (n:Nat) (s:List UInt8):Nat:=Zvl s n
def dec (s:List UInt8):Nat:=Zmi 0 s
def Dg (s:List UInt8):Prop:= ∀c∈s,48≤c.toNat∧c.toNat≤57
def Cn (s:List UInt8):Prop:=s≠ []∧Dg s∧(1<s.length→s.head?≠some 48)
theorem Zri (n:Nat):Zmi n []=n:=rfl
theorem Zdi (n:Nat) (c:UInt8) (s:List UInt8):Zmi n (c::s)=Zmi (10*n+(c.toNat-48)) s:=by unfold Zmi;rfl
theorem Zlb:dec []=0:=rfl
theorem ZhC: ∀ (s:List UInt8) (n:Nat),Zmi n s=n*10^s.length+dec s
 | [],n=>by rw[Zri,Zlb];simp
 |c::s,n=>by
  have h1:dec (c::s)=Zmi (10*0+(c.toNat-48)) s:=Zdi 0 c s
  rw[Zdi,ZhC s,h1,ZhC s (10*0+_),List.length_cons,Nat.pow_succ,Nat.add_mul,Nat.add_mul]
  have:10*n*10^s.length=n*(10^s.length*10):=by rw[Nat.mul_comm 10 n,Nat.mul_assoc,Nat.mul_comm 10]
  omega
theorem Zp3 (s t:List UInt8):dec (s++t)=dec s*10^t.length+dec t:=by
 have: ∀ (s t:List UInt8) (n:Nat),Zmi n (s++t)=Zmi (Zmi n s) t:=by
  intro s
  induction s with
  |nil=>intro t n;rfl
  |cons c s ih=>intro t n;exact ih t _
 rw[dec,this,ZhC];rfl
theorem Ze7 (c:UInt8) (s:List UInt8):dec (c::s)=(c.toNat-48)*10^s.length+dec s:=by
 rw[show dec (c::s)=Zmi (10*0+(c.toNat-48)) s from Zdi 0 c s,ZhC];simp
theorem Zjv (c:UInt8):dec [c]=c.toNat-48:=by rw[Ze7,Zlb];simp
theorem Znf (s:List UInt8) (c:UInt8):dec (s++ [c])=dec s*10+(c.toNat-48):=by rw[Zp3,Zjv];simp
theorem Dg.app {s t:List UInt8} (h1:Dg s) (h2:Dg t):Dg (s++t):=fun c hc=>(List.mem_append.1 hc).elim (h1 c) (h2 c)
theorem Dg.left {s t:List UInt8} (h:Dg (s++t)):Dg s:=fun c hc=>h c (List.mem_append_left _ hc)
theorem Dg.right {s t:List UInt8} (h:Dg (s++t)):Dg t:=fun c hc=>h c (List.mem_append_right _ hc)
theorem ZrH {s:List UInt8} (h:Dg s):dec s<10^s.length:=by
 induction s with
 |nil=>rw[Zlb];simp
 |cons c s ih=>
  have h1:=h c List.mem_cons_self
  have h2:=ih fun x hx=>h x (List.mem_cons_of_mem _ hx)
  rw[Ze7,List.length_cons,Nat.pow_succ]
  have h3:(c.toNat-48)*10^s.length≤9*10^s.length:=Nat.mul_le_mul_right _ (by omega)
  omega
theorem Zmh {c:UInt8} (h1:48≤c.toNat):UInt8.ofNat (48+(c.toNat-48))=c:=by
 rw[show 48+(c.toNat-48)=c.toNat by omega,UInt8.ofNat_toNat]
theorem Cn.ge {s:List UInt8} (h:Cn s) (h1:1<s.length):10^(s.length-1)≤dec s:=by
 obtain⟨_,h2,h3⟩:=h
 cases s with
 |nil=>simp at h1
 |cons c s=>
  have h3:=h3 h1
  have hc:=h2 c List.mem_cons_self
  have:c.toNat≠48:=fun e=>h3 (by simp only[List.head?_cons,Option.some.injEq];exact UInt8.toNat_inj.1 (by rw[e];rfl))
  rw[Ze7,List.length_cons,Nat.add_sub_cancel]
  have h3:1*10^s.length≤(c.toNat-48)*10^s.length:=Nat.mul_le_mul_right _ (by omega)
  omega
theorem Cn.left {s:List UInt8} {c:UInt8} (h:Cn (s++ [c])) (hs:s≠ []):Cn s:=by
 obtain⟨_,h2,h3⟩:=h
 refine⟨hs,h2.left,fun h1=> ?_⟩
 cases s with
 |nil=>exact absurd rfl hs
 |cons x s=>simpa using h3 (by simp)
theorem Cn.eq {s:List UInt8} (h:Cn s):decDigits (dec s)=s:=by
 have main: ∀ (n:Nat) (s:List UInt8),s.length=n→Cn s→decDigits (dec s)=s:=by
  intro n
  induction n with
  |zero=>intro s hl h;exact absurd (List.length_eq_zero_iff.1 hl) h.1
  |succ n ih=>
   intro s hl h
   obtain⟨t,c,rfl⟩: ∃t c,s=t++ [c]:=⟨s.dropLast,s.getLast h.1,(List.dropLast_concat_getLast h.1).symm⟩
   have hc:=h.2.1 c (by simp)
   by_cases ht:t=[]
   ·subst ht
    rw[List.nil_append,Zjv,decDigits_one (by omega),Zmh hc.1]
   ·have h1:=h.left ht
    have h2:=ih t (by simpa using hl) h1
    have h3:1≤dec t:=by
     cases t with
     |nil=>exact absurd rfl ht
     |cons x t=>
      have h4:=h.2.2 (by simp)
      have hx:=h.2.1 x (by simp)
      have:x.toNat≠48:=fun e=>h4 (by simp only[List.cons_append,List.head?_cons,Option.some.injEq];exact UInt8.toNat_inj.1 (by rw[e];rfl))
      rw[Ze7]
      have h5:1*10^t.length≤(x.toNat-48)*10^t.length:=Nat.mul_le_mul_right _ (by omega)
      have h6:1≤10^t.length:=Nat.one_le_pow _ _ (by decide)
      omega
    rw[Znf,decDigits,dif_neg (by omega),show(dec t*10+(c.toNat-48))/10=dec t by omega,show(dec t*10+(c.toNat-48)) % 10=c.toNat-48 by omega,h2,Zmh hc.1]
 exact main _ s rfl h
theorem Zfk {d:Nat} (h:d<10):(UInt8.ofNat (48+d)).toNat=48+d:=by
 rw[UInt8.toNat_ofNat'];omega
theorem Zel (n:Nat):dec (decDigits n)=n:=by
 induction n using Nat.strongRecOn with
 |_ n ih=>
  by_cases h:n<10
  ·rw[decDigits_one h,Zjv,Zfk h];omega
  ·rw[decDigits,dif_neg h,Znf,ih _ (by omega),Zfk (by omega)];omega
theorem ZgX (n:Nat):Dg (decDigits n):=by
 induction n using Nat.strongRecOn with
 |_ n ih=>
  by_cases h:n<10
  ·rw[decDigits_one h]
   intro c hc
   rw[List.mem_singleton.1 hc,Zfk h];omega
  ·rw[decDigits,dif_neg h]
   refine(ih _ (by omega)).app ?_
   intro c hc
   rw[List.mem_singleton.1 hc,Zfk (by omega)];omega
theorem ZjQ (n:Nat):decDigits n≠ []:=fun e=>by
 have:=decDigits_length n
 have h:=nDigits_pos n
 rw[e]at this;simp at this;omega
theorem ZjU (n:Nat):Cn (decDigits n):=by
 refine⟨ZjQ n,ZgX n, ?_⟩
 induction n using Nat.strongRecOn with
 |_ n ih=>
  by_cases h:n<10
  ·rw[decDigits_one h];simp
  ·rw[decDigits,dif_neg h]
   intro _
   by_cases h2:1<(decDigits (n/10)).length
   ·have:=ih _ (by omega) h2
    cases hd:decDigits (n/10)with
    |nil=>exact absurd hd (ZjQ _)
    |cons x t=>rw[hd]at this;simpa using this
   ·have h10:n/10<10:=by
     rcases Nat.lt_or_ge (n/10) 10 with h'|h'
     ·exact h'
     ·rw[decDigits_length,nDigits_big (by omega)]at h2
      have:=nDigits_pos (n/10/10)
      omega
    rw[decDigits_one h10]
    simp only[List.cons_append,List.nil_append,List.head?_cons,ne_eq,Option.some.injEq]
    intro e
    have:=Zfk h10
    rw[e]at this
    simp at this
    omega
theorem Cn.inj {s t:List UInt8} (h1:Cn s) (h2:Cn t) (h:dec s=dec t):s=t:=by rw[←h1.eq,←h2.eq,h]
theorem ZfX {n k:Nat} (hk:1≤k):(decDigits n).length≤k↔n<10^k:=by
 constructor
 ·intro h
  have h1:=ZrH (ZgX n)
  rw[Zel]at h1
  exact Nat.lt_of_lt_of_le h1 (Nat.pow_le_pow_right (by decide) h)
 ·intro h
  rcases Nat.lt_or_ge k (decDigits n).length with h1|h1
  ·have h2:=(ZjU n).ge (by omega)
   rw[Zel]at h2
   have:=Nat.pow_le_pow_right (show 0<10 by decide) (show k≤(decDigits n).length-1 by omega)
   omega
  ·exact h1
end Dv
