/-
 Decimal texts: what a text of digits is worth; the canonical text.
-/
import Derived.Lib.ItoaNum
import GoSem.Op.String
import Derived.Test.YtkhpbclcfldhmaaGreatDoorAmC
import Derived.Lib.Bytealg
import Derived.Lib.LaidTab
import Derived.Lib.ItoaMem
import Derived.Test.YtkhpbclcfldhmaaGreatDoorRows
set_option linter.constructorNameAsVariable false
set_option linter.unusedSimpArgs false
set_option linter.unusedVariables false
namespace Dv
open Go Go.Lib
def ZzF:List UInt8→Nat→Nat
 | [],n=>n
 |c::s,n=>ZzF s (10*n+(c.toNat-48))
def Zn3 (n:Nat) (s:List UInt8):Nat:=ZzF s n
def dec (s:List UInt8):Nat:=Zn3 0 s
def Dg (s:List UInt8):Prop:= ∀c∈s,48≤c.toNat∧c.toNat≤57
def Cn (s:List UInt8):Prop:=s≠ []∧Dg s∧(1<s.length→s.head?≠some 48)
theorem ZtP (n:Nat):Zn3 n []=n:=rfl
theorem ZdK (n:Nat) (c:UInt8) (s:List UInt8):Zn3 n (c::s)=Zn3 (10*n+(c.toNat-48)) s:=by unfold Zn3;rfl
theorem ZkC:dec []=0:=rfl
theorem ZiO: ∀ (s:List UInt8) (n:Nat),Zn3 n s=n*10^s.length+dec s
 | [],n=>by rw[ZtP,ZkC];simp
 |c::s,n=>by
  have h1:dec (c::s)=Zn3 (10*0+(c.toNat-48)) s:=ZdK 0 c s
  rw[ZdK,ZiO s,h1,ZiO s (10*0+_),List.length_cons,Nat.pow_succ,Nat.add_mul,Nat.add_mul]
  have:10*n*10^s.length=n*(10^s.length*10):=by rw[Nat.mul_comm 10 n,Nat.mul_assoc,Nat.mul_comm 10]
  omega
theorem ZmN (s t:List UInt8):dec (s++t)=dec s*10^t.length+dec t:=by
 have: ∀ (s t:List UInt8) (n:Nat),Zn3 n (s++t)=Zn3 (Zn3 n s) t:=by
  intro s
  induction s with
  |nil=>intro t n;rfl
  |cons c s ih=>intro t n;exact ih t _
 rw[dec,this,ZiO];rfl
theorem ZfX (c:UInt8) (s:List UInt8):dec (c::s)=(c.toNat-48)*10^s.length+dec s:=by
 rw[show dec (c::s)=Zn3 (10*0+(c.toNat-48)) s from ZdK 0 c s,ZiO];simp
theorem Zkh (c:UInt8):dec [c]=c.toNat-48:=by rw[ZfX,ZkC];simp
theorem Zo6 (s:List UInt8) (c:UInt8):dec (s++ [c])=dec s*10+(c.toNat-48):=by rw[ZmN,Zkh];simp
theorem Dg.app {s t:List UInt8} (h1:Dg s) (h2:Dg t):Dg (s++t):=fun c hc=>(List.mem_append.1 hc).elim (h1 c) (h2 c)
theorem Dg.left {s t:List UInt8} (h:Dg (s++t)):Dg s:=fun c hc=>h c (List.mem_append_left _ hc)
theorem Dg.right {s t:List UInt8} (h:Dg (s++t)):Dg t:=fun c hc=>h c (List.mem_append_right _ hc)
theorem ZjA {s:List UInt8} (h:Dg s):dec s<10^s.length:=by
 induction s with
 |nil=>rw[ZkC];simp
 |cons c s ih=>
  have h1:=h c List.mem_cons_self
  have h2:=ih fun x hx=>h x (List.mem_cons_of_mem _ hx)
  rw[ZfX,List.length_cons,Nat.pow_succ]
  have h3:(c.toNat-48)*10^s.length≤9*10^s.length:=Nat.mul_le_mul_right _ (by omega)
  omega
theorem Zph {c:UInt8} (h1:48≤c.toNat):UInt8.ofNat (48+(c.toNat-48))=c:=by
 rw[show 48+(c.toNat-48)=c.toNat by omega,UInt8.ofNat_toNat]
theorem Cn.ge {s:List UInt8} (h:Cn s) (h1:1<s.length):10^(s.length-1)≤dec s:=by
 obtain⟨_,h2,h3⟩:=h
 cases s with
 |nil=>simp at h1
 |cons c s=>
  have h3:=h3 h1
  have hc:=h2 c List.mem_cons_self
  have:c.toNat≠48:=fun e=>h3 (by simp only[List.head?_cons,Option.some.injEq];exact UInt8.toNat_inj.1 (by rw[e];rfl))
  rw[ZfX,List.length_cons,Nat.add_sub_cancel]
  have h3:1*10^s.length≤(c.toNat-48)*10^s.length:=Nat.mul_le_mul_right _ (by omega)
  omega
theorem Cn.left {s:List UInt8} {c:UInt8} (h:Cn (s++ [c])) (hs:s≠ []):Cn s:=by
 obtain⟨_,h2,h3⟩:=h
 refine⟨hs,h2.left,fun h1=> ?_⟩
 cases s with
 |nil=>exact absurd rfl hs
 |cons x s=>simpa using h3 (by simp)
theorem Cn.eq {s:List UInt8} (h:Cn s):decDigits (dec s)=s:=by
 have main: ∀ (n:Nat) (s:List UInt8),s.length=n→Cn s→decDigits (dec s)=s:=by
  intro n
  induction n with
  |zero=>intro s hl h;exact absurd (List.length_eq_zero_iff.1 hl) h.1
  |succ n ih=>
   intro s hl h
   obtain⟨t,c,rfl⟩: ∃t c,s=t++ [c]:=⟨s.dropLast,s.getLast h.1,(List.dropLast_concat_getLast h.1).symm⟩
   have hc:=h.2.1 c (by simp)
   by_cases ht:t=[]
   ·subst ht
    rw[List.nil_append,Zkh,decDigits_one (by omega),Zph hc.1]
   ·have h1:=h.left ht
    have h2:=ih t (by simpa using hl) h1
    have h3:1≤dec t:=by
     cases t with
     |nil=>exact absurd rfl ht
     |cons x t=>
      have h4:=h.2.2 (by simp)
      have hx:=h.2.1 x (by simp)
      have:x.toNat≠48:=fun e=>h4 (by simp only[List.cons_append,List.head?_cons,Option.some.injEq];exact UInt8.toNat_inj.1 (by rw[e];rfl))
      rw[ZfX]
      have h5:1*10^t.length≤(x.toNat-48)*10^t.length:=Nat.mul_le_mul_right _ (by omega)
      have h6:1≤10^t.length:=Nat.one_le_pow _ _ (by decide)
      omega
    rw[Zo6,decDigits,dif_neg (by omega),show(dec t*10+(c.toNat-48))/10=dec t by omega,show(dec t*10+(c.toNat-48)) % 10=c.toNat-48 by omega,h2,Zph hc.1]
 exact main _ s rfl h
theorem ZfI {d:Nat} (h:d<10):(UInt8.ofNat (48+d)).toNat=48+d:=by
 rw[UInt8.toNat_ofNat'];omega
theorem Zbj (n:Nat):dec (decDigits n)=n:=by
 induction n using Nat.strongRecOn with
 |_ n ih=>
  by_cases h:n<10
  ·rw[decDigits_one h,Zkh,ZfI h];omega
  ·rw[decDigits,dif_neg h,Zo6,ih _ (by omega),ZfI (by omega)];omega
theorem ZbH (n:Nat):Dg (decDigits n):=by
 induction n using Nat.strongRecOn with
 |_ n ih=>
  by_cases h:n<10
  ·rw[decDigits_one h]
   intro c hc
   rw[List.mem_singleton.1 hc,ZfI h];omega
  ·rw[decDigits,dif_neg h]
   refine(ih _ (by omega)).app ?_
   intro c hc
   rw[List.mem_singleton.1 hc,ZfI (by omega)];omega
theorem Zid (n:Nat):decDigits n≠ []:=fun e=>by
 have:=decDigits_length n
 have h:=nDigits_pos n
 rw[e]at this;simp at this;omega
theorem ZdG (n:Nat):Cn (decDigits n):=by
 refine⟨Zid n,ZbH n, ?_⟩
 induction n using Nat.strongRecOn with
 |_ n ih=>
  by_cases h:n<10
  ·rw[decDigits_one h];simp
  ·rw[decDigits,dif_neg h]
   intro _
   by_cases h2:1<(decDigits (n/10)).length
   ·have:=ih _ (by omega) h2
    cases hd:decDigits (n/10)with
    |nil=>exact absurd hd (Zid _)
    |cons x t=>rw[hd]at this;simpa using this
   ·have h10:n/10<10:=by
     rcases Nat.lt_or_ge (n/10) 10 with h'|h'
     ·exact h'
     ·rw[decDigits_length,nDigits_big (by omega)]at h2
      have:=nDigits_pos (n/10/10)
      omega
    rw[decDigits_one h10]
    simp only[List.cons_append,List.nil_append,List.head?_cons,ne_eq,Option.some.injEq]
    intro e
    have:=ZfI h10
    rw[e]at this
    simp at this
    omega
theorem Cn.inj {s t:List UInt8} (h1:Cn s) (h2:Cn t) (h:dec s=dec t):s=t:=by rw[←h1.eq,←h2.eq,h]
theorem ZcP {n k:Nat} (hk:1≤k):(decDigits n).length≤k↔n<10^k:=by
 constructor
 ·intro h
  have h1:=ZjA (ZbH n)
  rw[Zbj]at h1
  exact Nat.lt_of_lt_of_le h1 (Nat.pow_le_pow_right (by decide) h)
 ·intro h
  rcases Nat.lt_or_ge k (decDigits n).length with h1|h1
  ·have h2:=(ZdG n).ge (by omega)
   rw[Zbj]at h2
   have:=Nat.pow_le_pow_right (show 0<10 by decide) (show k≤(decDigits n).length-1 by omega)
   omega
  ·exact h1
end Dv
/-
 Numbers in 32-bit words: what a list of words is worth.
-/
namespace Dv
def Wd (l:List Int):Prop:= ∀x∈l,0≤x∧x<4294967296
def wv:List Int→Int
 | []=>0
 |x::r=>x+4294967296*wv r
theorem Zdy: ∀ (l m:List Int),wv (l++m)=wv l+4294967296^l.length*wv m
 | [],m=>by simp[wv]
 |x::l,m=>by
  simp only[List.cons_append,wv,Zdy l m,List.length_cons,Int.pow_succ]
  rw[Int.mul_add,←Int.mul_assoc,Int.mul_comm _ 4294967296,Int.add_assoc]
theorem Zbx {l:List Int} {i:Nat} (h:i<l.length):wv (l.take (i+1))=wv (l.take i)+4294967296^i*l[i]:=by
 rw[List.take_succ_eq_append_getElem h,Zdy]
 simp[wv,Nat.min_eq_left (Nat.le_of_lt h)]
theorem Zb7 {l:List Int} {i:Nat} {x:Int} (h:i<l.length):(l.set i x).take (i+1)=l.take i++ [x]:=by
 rw[List.take_succ_eq_append_getElem (by simpa using h),List.take_set_of_le (Nat.le_refl _)]
 simp
theorem Zpf {a b out:List Int} {i:Nat} {c c' z:Int} (hi:i<a.length) (ho:i<out.length) (hz:wv (b.take (i+1))=wv (b.take i)+4294967296^i*z) (hc:c'=c+a[i]+z)
 (h:wv (out.take i)+4294967296^i*c=wv (a.take i)+wv (b.take i)):wv ((out.set i (c' % 4294967296)).take (i+1))+4294967296^(i+1)*(c'/4294967296)=wv (a.take (i+1))+wv (b.take (i+1)):=by
 rw[Zb7 ho,Zdy,Zbx hi,hz,List.length_take,Nat.min_eq_left (Nat.le_of_lt ho),Int.pow_succ]
 have e:c' % 4294967296+4294967296*(c'/4294967296)=c':=Int.emod_add_mul_ediv c' 4294967296
 have:wv [c' % 4294967296]=c' % 4294967296:=by simp[wv]
 rw[this,Int.mul_assoc,Int.add_assoc,←Int.mul_add,e,hc,Int.mul_add,Int.mul_add]
 omega
theorem Zpd {a b out:List Int} {i:Nat} {c c' z:Int} (hi:i<a.length) (ho:i<out.length) (hz:wv (b.take (i+1))=wv (b.take i)+4294967296^i*z) (hc:c'=c+a[i]-z)
 (h:wv (out.take i)+4294967296^i*c=wv (a.take i)-wv (b.take i)):wv ((out.set i (c' % 4294967296)).take (i+1))+4294967296^(i+1)*(c'/4294967296)=wv (a.take (i+1))-wv (b.take (i+1)):=by
 rw[Zb7 ho,Zdy,Zbx hi,hz,List.length_take,Nat.min_eq_left (Nat.le_of_lt ho),Int.pow_succ]
 have e:c' % 4294967296+4294967296*(c'/4294967296)=c':=Int.emod_add_mul_ediv c' 4294967296
 have:wv [c' % 4294967296]=c' % 4294967296:=by simp[wv]
 rw[this,Int.mul_assoc,Int.add_assoc,←Int.mul_add,e,hc,Int.mul_sub,Int.mul_add]
 omega
theorem Za7: ∀ {l:List Int},Wd l→0≤wv l∧wv l<4294967296^l.length
 | [],_=>by simp[wv]
 |x::l,h=>by
  have h1:=h x List.mem_cons_self
  have h2:=Za7 (l:=l) fun y hy=>h y (List.mem_cons_of_mem _ hy)
  rw[wv,List.length_cons,Int.pow_succ]
  generalize(4294967296:Int)^l.length=p at h2⊢
  omega
theorem Zsn {a b:List Int} (ha:Wd a) (hb:Wd b) {m:Nat} (hm:m<a.length) (hl:a.length=b.length) (hd:a.drop (m+1)=b.drop (m+1)) (h:a[m]<b[m]):wv a<wv b:=by
 have e1:wv a=wv (a.take m)+4294967296^m*(a[m]+4294967296*wv (a.drop (m+1))):=by
  conv=>lhs;rw[←List.take_append_drop m a]
  rw[Zdy,List.length_take,Nat.min_eq_left (by omega),List.drop_eq_getElem_cons hm];rfl
 have e2:wv b=wv (b.take m)+4294967296^m*(b[m]+4294967296*wv (b.drop (m+1))):=by
  conv=>lhs;rw[←List.take_append_drop m b]
  rw[Zdy,List.length_take,Nat.min_eq_left (by omega),List.drop_eq_getElem_cons (by omega)];rfl
 have b1:=Za7 (l:=a.take m) fun x hx=>ha x (List.mem_of_mem_take hx)
 have b2:=Za7 (l:=b.take m) fun x hx=>hb x (List.mem_of_mem_take hx)
 rw[List.length_take,Nat.min_eq_left (by omega)]at b1
 rw[e1,e2,hd]
 generalize 4294967296*wv (b.drop (m+1))=t
 have hp:(0:Int)<4294967296^m:=Int.pow_pos (by decide)
 have:(4294967296:Int)^m*(a[m]+t)+4294967296^m≤4294967296^m*(b[m]+t):=by
  have h1:=Int.mul_le_mul_of_nonneg_left (show a[m]+t+1≤b[m]+t by omega) (Int.le_of_lt hp)
  rw[Int.mul_add,Int.mul_one]at h1
  exact h1
 omega
def Nz (l:List Int):Prop:= ∀h:l≠ [],l.getLast h≠0
theorem ZoO: ∀ {l:List Int} {i:Nat} {x:Int} (h:i<l.length),wv (l.set i x)=wv l+4294967296^i*(x-l[i])
 | [],i,x,h=>by simp at h
 |y::l,0,x,_=>by simp only[List.set_cons_zero,wv,List.getElem_cons_zero,Int.pow_zero];omega
 |y::l,i+1,x,h=>by
  have ih:=ZoO (l:=l) (i:=i) (x:=x) (by simpa using h)
  simp only[List.set_cons_succ,wv,List.getElem_cons_succ,ih,Int.pow_succ]
  grind
theorem ZgC {m n b:Nat} (hb:0<b) (h:m≤n):(b:Int)^m≤(b:Int)^n:=by
 have:=Nat.pow_le_pow_right hb h
 rw[←Int.natCast_pow,←Int.natCast_pow]
 exact Int.ofNat_le.2 this
theorem Zmr: ∀ {l:List Int},Wd l→Nz l→l≠ []→0<wv l
 | [],_,_,h=>absurd rfl h
 | [x],hw,hn,_=>by
  have h1:=hw x (by simp)
  have h2:x≠0:=hn (by simp)
  simp only[wv];omega
 |x::y::l,hw,hn,_=>by
  have h1:=hw x (by simp)
  have h2:0<wv (y::l):=Zmr (fun z hz=>hw z (List.mem_cons_of_mem _ hz)) (fun h=>by
   have:=hn (by simp)
   rwa[List.getLast_cons (by simp)]at this) (by simp)
  show 0<x+4294967296*wv (y::l)
  omega
end Dv
/-
 What two library calls answer, as functions on values: a number's text, a text's number.
-/
namespace Dv
open Go Go.Am
def ZtR:Nat→Nat→List UInt8
 |0,_=> []
 |k+1,n=>match Nat.ble 10 n with
  |true=>ZtR k (n/10)++ [UInt8.ofNat (48+n % 10)]
  |false=> [UInt8.ofNat (48+n)]
theorem ZnA: ∀ (k n:Nat),1≤k→n<10^k→ZtR k n=Lib.decDigits n
 |0,_,h,_=>absurd h (by decide)
 |k+1,n,_,h=>by
  rw[ZtR]
  cases hb:Nat.ble 10 n with
  |true=>
   have hb:=Nat.le_of_ble_eq_true hb
   have hk:1≤k:=by
    rcases k with _|k
    ·simp at h;omega
    ·omega
   simp only[]
   rw[ZnA k (n/10) hk (by rw[Nat.pow_succ]at h;omega),Lib.decDigits.eq_1 n,dif_neg (by omega)]
  |false=>
   have hb:n<10:=by
    rcases Nat.lt_or_ge n 10 with h'|h'
    ·exact h'
    ·rw[Nat.ble_eq_true_of_le h']at hb;cases hb
   simp only[]
   rw[Lib.decDigits_one hb]
def Zex:List (List PV)→Option (List Int)
 | []=>some []
 | [.int .u32 x]::r=>match decide (0≤x)&&decide (x<4294967296)with
  |true=>(Zex r).map fun l=>x::l
  |false=>none
 |_=>none
def Zc8 (m:Bool) (l:List Int):List UInt8:=match l.isEmpty with
 |true=> [48]
 |false=>match Nat.ble l.length 210 with
  |true=>(match m with|true=> [45]|false=> [])++ZtR 2100 (wv l).toNat
  |false=> []
def ZcA (l:List Int):Bool:=match l.isEmpty with
 |true=>true
 |false=>match Nat.ble l.length 210 with
  |true=>Nat.ble (ZtR 2100 (wv l).toNat).length 2000
  |false=>false
def textG:List PV→Option PV
 | [.agg [.bool m, .nils]]=>some (.tup [.str ⟨(Zc8 m []).toArray⟩, .bool (ZcA [])])
 | [.agg [.bool m, .lst es]]=>(Zex es).map fun l=> .tup [.str ⟨(Zc8 m l).toArray⟩, .bool (ZcA l)]
 |_=>none
def Zw4 (s:List UInt8):Bool:=s.all fun c=>Nat.ble 48 c.toNat&&Nat.ble c.toNat 57
def parseG:List PV→Option PV
 | [.str s, .int .i64 b, .int .i64 z]=>match decide (b=10)&&decide (z=32)&&(Zw4 s.data.toList&&Nat.ble 1 s.data.toList.length&&Nat.ble s.data.toList.length 9)with
  |true=>some (.tup [.int .u64 (dec s.data.toList:Nat), .nili])
  |false=>none
 |_=>none
end Dv
/-
 The place of a byte in a text.
-/
namespace Dv
open Go Go.Am Go.Lib
def ZgV:List UInt8→UInt8→Nat→Int
 | [],_,_=> -1
 |b::l,c,i=>match Nat.beq b.toNat c.toNat with
  |true=>(i:Int)
  |false=>ZgV l c (i+1)
theorem Zhr: ∀ (l:List UInt8) (c:UInt8),-1≤indexByte l c
 | [],_=>Int.le_refl _
 |b::l,c=>by
  have:=Zhr l c
  rw[indexByte]
  split
  ·decide
  ·split
   ·decide
   ·omega
theorem ZrP: ∀ (l:List UInt8) (c:UInt8) (i:Nat),ZgV l c i=if indexByte l c= -1 then-1 else i+indexByte l c
 | [],_,_=>rfl
 |b::l,c,i=>by
  have h1:=Zhr l c
  have ih:=ZrP l c (i+1)
  have hb:Nat.beq b.toNat c.toNat=(b==c):=by
   rw[Bool.eq_iff_iff,Nat.beq_eq,beq_iff_eq]
   exact UInt8.toNat_inj
  rw[ZgV,indexByte,hb]
  cases hbc:b==c with
  |true=>simp
  |false=>
   simp only[Bool.false_eq_true,if_false,ih]
   by_cases h:indexByte l c= -1
   ·simp[h]
   ·rw[if_neg h]
    have h2:(indexByte l c== -1)=false:=by simpa using h
    rw[h2]
    simp only[Bool.false_eq_true,if_false]
    rw[if_neg (by omega)]
    omega
theorem Zxv (l:List UInt8) (c:UInt8):ZgV l c 0=indexByte l c:=by
 rw[ZrP]
 split
 ·rename_i h;exact h.symm
 ·omega
def indexG:List PV→Option PV
 | [.str s, .str t]=>match t.data.toList with
  | [c]=>some (.int .i64 (ZgV s.data.toList c 0))
  |_=>none
 |_=>none
def ZhH (s:List UInt8) (c:UInt8):List UInt8×List UInt8×Bool:=match decide (0≤ZgV s c 0)with
 |true=>(s.take (ZgV s c 0).toNat,s.drop ((ZgV s c 0).toNat+1),true)
 |false=>(s,[],false)
end Dv
/-
 The hints for this seat's program; the static facts of its text.
-/
namespace Go.Proofs.YtkhpbclcfldhmaaGreatDoor
theorem Zo0 {P:Program} {w w':World} {name:String} {k:IntKind} {zs:List Int} {g:Nat} (hg:P.globalNamed name=some g) (hb:w'.heap[g]? =w.heap[g]?) (h:Lib.TabIs P w name k zs):Lib.TabIs P w' name k zs:=by
 unfold Lib.TabIs World.var? at*
 simp only[hg,Option.bind_some]at h⊢
 rw[hb]
 exact h
def ZeB:String:= "internal/strconv.uint64pow10"
noncomputable instance natLaid:Am.Laid where
 ok S w:= ∃g,Tryz.prog.globalNamed ZeB=some g∧S g∧Lib.TabIs Tryz.prog w ZeB .u64 Lib.pow10Tab
 mono:=by
  rintro S w S' w' h ⟨g,h1,h2,h3⟩
  exact⟨g,h1,(h g h2).1,Zo0 h1 (h g h2).2 h3⟩
noncomputable def hOk:List Nat:=
 [3,4,5,6,7,8,9,10,11,12,13,14,15,16,17,18,19,20,21,22,23,24,25,26,27,28,29,30,31,32,33,34,35,36,37,38,39,40,41,42,43,44,45,46,47,48,49,50,51,52,53,54,55,56,57,58,59,60,62,63,64,65,66,67,68,70,71,72,74,75,76,77,81,84,89,90,99,100,103,113,116,118,119]
noncomputable def ZzK:List Nat:=
 [29,31]
noncomputable def ZzT:List Nat:=
 [4,5,6,13,15,16,20,22,24,25,26,27,28,34,35,41,43,44,45,46,47,48,53,55,58,60,62,63,64,65,67,70,75,76,77,81]
noncomputable def ZzP:List Nat:=
 [71,90]
noncomputable def Zyn:List (Nat×List (Nat×List Nat)):=
 [(3,[(4,[11,12,13])]),(63,[(5,[1])]),(71,[(9,[0])])]
noncomputable def ZuZ:Am.Hints:=Am.mkHints hOk ZzK ZzT ZzP [] [] Zyn []
set_option maxRecDepth 100000 in
theorem Zs7:Am.Static Tryz.prog ZuZ:=Am.static_of Tryz.checked.mixed (by decide+kernel)
noncomputable def Zpj (p:FuncId→Option (List Am.PV→Option Am.PV)):Am.Hints:=Am.withPrims ZuZ p
def prims:FuncId→Option (List Am.PV→Option Am.PV)
 |61=>some Dv.textG
 |69=>some Dv.parseG
 |73=>some Dv.indexG
 |_=>none
noncomputable def Zao:Am.Hints:=Zpj prims
end Go.Proofs.YtkhpbclcfldhmaaGreatDoor
