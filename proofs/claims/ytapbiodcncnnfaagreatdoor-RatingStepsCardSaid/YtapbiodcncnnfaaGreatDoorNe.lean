/- What is wrong with a network: plain Lean. -/
import Derived.Test.YtapbiodcncnnfaaGreatDoorAl
import Derived.Lib.ItoaNum
import GoSem.Op.String
set_option linter.all false
set_option maxRecDepth 100000
namespace Ne
abbrev Txt:=List UInt8
abbrev Item:=Txt×(List Txt×(Bool×Bool))
abbrev Sw:=Txt×(Txt×(Txt×(Bool×Bool)))
abbrev Br:=Txt×(Txt×(Txt×(Int×(Int×(Int×(Int×(Int×Int)))))))
abbrev Ge:=Txt×(Txt×(Int×(Int×Int)))
abbrev Lo:=Txt×(Txt×Int)
abbrev Sto:=Txt×(Txt×(Int×(Int×Int)))
structure Net where
 nodes:List Txt
 sws:List Sw
 brs:List Br
 gens:List Ge
 loads:List Lo
 stores:List Sto
def ZlY (c:UInt8):Bool:=decide (65≤c.toNat)&&decide (c.toNat≤90)
def Znn (c:UInt8):Bool:=decide (48≤c.toNat)&&decide (c.toNat≤57)
def Zbu:Txt→Bool
 | []=>false
 |c::r=>Nat.ble (r.length+1) 8&&(ZlY c&&r.all fun c=>ZlY c||Znn c)
def inR (n lo hi:Int):Bool:=decide (lo≤n)&&decide (n≤hi)
def ZhW (b:Br):Bool:= !(inR b.2.2.2.1 1 10000&&inR b.2.2.2.2.1 500 1500&&inR b.2.2.2.2.2.1 (-1000) 1000&&inR b.2.2.2.2.2.2.1 0 100000&&inR b.2.2.2.2.2.2.2.1 b.2.2.2.2.2.2.1 100000&&inR b.2.2.2.2.2.2.2.2 0 200000)
def swI (s:Sw):Item:=(s.1,[s.2.1,s.2.2.1],true,false)
def brI (b:Br):Item:=(b.1,[b.2.1,b.2.2.1],true,ZhW b)
def geI (g:Ge):Item:=(g.1,[g.2.1],false, !(inR g.2.2.1 0 100000)|| !(inR g.2.2.2.1 g.2.2.1 100000)|| !(inR g.2.2.2.2 0 100000))
def loI (d:Lo):Item:=(d.1,[d.2.1],false, !(inR d.2.2 0 100000))
def stI (s:Sto):Item:=(s.1,[s.2.1],false, !(inR s.2.2.1 0 100000)|| !(inR s.2.2.2.1 0 100000)|| !(inR s.2.2.2.2 0 100000))
def noI (s:Txt):Item:=(s,[],false,false)
def ZrU (n:Net):List Item:=n.sws.map swI++(n.brs.map brI++(n.gens.map geI++(n.loads.map loI++n.stores.map stI)))
def Zdg (s:Txt):List Txt→Bool
 | []=>false
 |k::r=>bif s==k then true else Zdg s r
def Zbl (nodes met:List Txt) (it:Item):Int:=
 bif !Zbu it.1 then 5 else bif Zdg it.1 met then 7 else bif it.2.1.all fun s=>Zdg s nodes then
  (bif it.2.2.1&&(it.2.1.getD 0 []==it.2.1.getD 1 [])then 3 else bif it.2.2.2 then 4 else 0)else 6
def ZaI (nodes:List Txt):List Txt→List Item→Int
 |_,[]=>0
 |met,it::r=>match decide (Zbl nodes met it=0)with
  |true=>ZaI nodes (met++ [it.1]) r
  |false=>Zbl nodes met it
def big (n:Net):Bool:=decide (24<n.nodes.length)||(decide (32<n.sws.length)||(decide (24<n.brs.length)||(decide (10<n.gens.length)||(decide (12<n.loads.length)||decide (4<n.stores.length)))))
def ZeC (n:Net):Int:=bif big n then 2 else ZaI n.nodes [] (n.nodes.map noI++ZrU n)
def Zcm (e f:Int):Int:=match decide (e=0)with
 |true=>f
 |false=>e
def ZcZ (s:Txt):List Txt→Nat→Int
 | [],_=> -1
 |k::r,i=>bif s==k then(i:Int)else ZcZ s r (i+1)
theorem Zme (s:Txt): ∀ (l:List Txt) (i:Nat),Zdg s l=decide (0≤ZcZ s l i)
 | [],_=>rfl
 |k::r,i=>by
  rw[Zdg,ZcZ]
  cases s==k with
  |true=>simp
  |false=>simp only[cond_false];exact Zme s r (i+1)
theorem ZlG (nodes:List Txt): ∀ (l r:List Item) (met:List Txt),ZaI nodes met (l++r)=Zcm (ZaI nodes met l) (ZaI nodes (met++l.map (·.1)) r)
 | [],r,met=>by simp[ZaI,Zcm]
 |it::l,r,met=>by
  rw[XbH,ZaI,ZaI]
  cases h:decide (Zbl nodes met it=0)with
  |true=>
   simp only[]
   rw[ZlG nodes l r,Xbb,Xbn];rfl
  |false=>
   simp only[]
   rw[Zcm,h]
end Ne
namespace Go.Proofs.YtapbiodcncnnfaaGreatDoor
open Ne
theorem Zk5 (s:Txt): ∀l:List Txt,Zdg s l=decide (s∈l)
 | []=>by simp[Zdg]
 |k::r=>by
  rw[Zdg,Zk5 s r]
  cases h:(s==k)with
  |true=>rw[eq_of_beq h];simp
  |false=>
   have j:s≠k:=fun e=>by rw[e,beq_self_eq_true]at h;cases h
   simp[j]
theorem Zxh {nodes met:List Txt} {it:Ne.Item} (h:Zbl nodes met it=0):Zbu it.1=true∧Zdg it.1 met=false∧(∀s∈it.2.1,s∈nodes)∧it.2.2.2=false:=by
 unfold Zbl at h
 cases C:Zbu it.1 with
 |false=>rw[C]at h;simp at h
 |true=>
  rw[C]at h
  cases I:Zdg it.1 met with
  |true=>rw[I]at h;simp at h
  |false=>
   rw[I]at h
   cases j:(it.2.1.all fun s=>Zdg s nodes)with
   |false=>rw[j]at h;simp at h
   |true=>
    rw[j]at h
    cases J:(it.2.2.1&&(it.2.1.getD 0 []==it.2.1.getD 1 []))with
    |true=>rw[J]at h;simp at h
    |false=>
     rw[J]at h
     cases R:it.2.2.2 with
     |true=>rw[R]at h;simp at h
     |false=>
      refine⟨rfl,rfl,fun s U=> ?_,rfl⟩
      have:=Xau.1 j s U
      rw[Zk5]at this
      exact of_decide_eq_true this
theorem ZjS {nodes:List Txt}: ∀ {l:List Ne.Item} {met:List Txt},ZaI nodes met l=0→met.Nodup→(∀it∈l,Zbu it.1=true∧(∀s∈it.2.1,s∈nodes)∧it.2.2.2=false)∧(met++l.map (·.1)).Nodup
 | [],met,_,I=>⟨fun _ h=>absurd h XaU,by simpa using I⟩
 |it::l,met,h,I=>by
  rw[ZaI]at h
  cases j:decide (Zbl nodes met it=0)with
  |false=>rw[j]at h;exact absurd h (of_decide_eq_false j)
  |true=>
   rw[j]at h
   have C:=Zxh (of_decide_eq_true j)
   have hm:(met++ [it.1]).Nodup:=by
    rw[List.nodup_append]
    refine⟨I,by simp,fun a R b U e=> ?_⟩
    rw[Xat.1 U]at e
    have J:=C.2.1
    rw[Zk5]at J
    exact(of_decide_eq_false J) (e▸R)
   obtain⟨g1,g2⟩:=ZjS (l:=l) h hm
   refine⟨fun x hx=> ?_, ?_⟩
   ·rcases Xav.1 hx with rfl|hx
    ·exact⟨C.1,C.2.2.1,C.2.2.2⟩
    ·exact g1 x hx
   ·rw[Xbb]
    simpa[Xbn]using g2
structure Fine (n:Ne.Net):Prop where
 big:Ne.big n=false
 node: ∀s∈n.nodes,Zbu s=true
 dev: ∀it∈ZrU n,Zbu it.1=true∧(∀s∈it.2.1,s∈n.nodes)∧it.2.2.2=false
 nd:(n.nodes++(ZrU n).map (·.1)).Nodup
theorem ZzO {n:Ne.Net} (h:ZeC n=0):big n=false:=by
 cases j:big n with
 |false=>rfl
 |true=>unfold ZeC at h;rw[j,cond_true]at h;cases h
theorem ZrI {n:Ne.Net} (h:ZeC n=0):Fine n:=by
 have j:=ZzO h
 unfold ZeC at h
 rw[j,cond_false]at h
 obtain⟨g1,g2⟩:=ZjS h List.nodup_nil
 refine⟨j,fun s C=>(g1 (noI s) (Xbf _ (List.mem_map_of_mem C))).1,fun it hi=> ?_, ?_⟩
 ·exact g1 it (Xbi _ hi)
 ·rw[List.nil_append,XbM,List.map_map]at g2
  have e:((fun x:Ne.Item=>x.1)∘noI)=id:=rfl
  rw[e,List.map_id]at g2
  exact g2
theorem ZrE {x lo hi:Int} (h:inR x lo hi=true):lo≤x∧x≤hi:=by
 unfold inR at h
 simpa using h
theorem Zy4 {n:Ne.Net} (j:Fine n) {x:Br} (C:x∈n.brs):x.2.1∈n.nodes∧x.2.2.1∈n.nodes∧ZhW x=false:=by
 have h:=j.dev (brI x) (Xbi _ (Xbf _ (List.mem_map_of_mem C)))
 exact⟨h.2.1 _ (by simp[brI]),h.2.1 _ (by simp[brI]),h.2.2⟩
theorem Zev {n:Ne.Net} (j:Fine n):n.nodes.length≤24∧n.sws.length≤32∧n.brs.length≤24∧n.gens.length≤10∧n.loads.length≤12∧n.stores.length≤4:=by
 have C:=j.big
 simp only[big,Xbg,decide_eq_false_iff_not]at C
 omega
end Go.Proofs.YtapbiodcncnnfaaGreatDoor
namespace Dv
open Go Go.Lib
def ZBk:List UInt8→Nat→Nat
 | [],n=>n
 |c::s,n=>ZBk s (10*n+(c.toNat-48))
def Zow (n:Nat) (s:List UInt8):Nat:=ZBk s n
def dec (s:List UInt8):Nat:=Zow 0 s
def Dg (s:List UInt8):Prop:= ∀c∈s,48≤c.toNat∧c.toNat≤57
def Cn (s:List UInt8):Prop:=s≠ []∧Dg s∧(1<s.length→s.head?≠some 48)
theorem Zu2 (n:Nat):Zow n []=n:=rfl
theorem Zd6 (n:Nat) (c:UInt8) (s:List UInt8):Zow n (c::s)=Zow (10*n+(c.toNat-48)) s:=by unfold Zow;rfl
theorem ZkE:dec []=0:=rfl
theorem ZiT: ∀ (s:List UInt8) (n:Nat),Zow n s=n*10^s.length+dec s
 | [],n=>by rw[Zu2,ZkE];simp
 |c::s,n=>by
  have j:dec (c::s)=Zow (10*0+(c.toNat-48)) s:=Zd6 0 c s
  rw[Zd6,ZiT s,j,ZiT s (10*0+_),Xap,Nat.pow_succ,Xa4,Xa4]
  have:10*n*10^s.length=n*(10^s.length*10):=by rw[Nat.mul_comm 10 n,Nat.mul_assoc,Nat.mul_comm 10]
  omega
theorem Zk3 (s t:List UInt8):dec (s++t)=dec s*10^t.length+dec t:=by
 have: ∀ (s t:List UInt8) (n:Nat),Zow n (s++t)=Zow (Zow n s) t:=by
  intro s
  induction s with
  |nil=>intro t n;rfl
  |cons c s j=>intro t n;exact j t _
 rw[dec,this,ZiT];rfl
theorem ZcF (c:UInt8) (s:List UInt8):dec (c::s)=(c.toNat-48)*10^s.length+dec s:=by
 rw[show dec (c::s)=Zow (10*0+(c.toNat-48)) s from Zd6 0 c s,ZiT];simp
theorem Zjo (c:UInt8):dec [c]=c.toNat-48:=by rw[ZcF,ZkE];simp
theorem Zfd (s:List UInt8) (c:UInt8):dec (s++ [c])=dec s*10+(c.toNat-48):=by rw[Zk3,Zjo];simp
theorem Dg.app {s t:List UInt8} (j:Dg s) (C:Dg t):Dg (s++t):=fun c I=>(XaA.1 I).elim (j c) (C c)
theorem Dg.left {s t:List UInt8} (h:Dg (s++t)):Dg s:=fun c j=>h c (Xbf _ j)
theorem Dg.right {s t:List UInt8} (h:Dg (s++t)):Dg t:=fun c j=>h c (Xbi _ j)
theorem ZbI {s:List UInt8} (h:Dg s):dec s<10^s.length:=by
 induction s with
 |nil=>rw[ZkE];simp
 |cons c s j=>
  have I:=h c Xah
  have J:=j fun x C=>h x (Xai _ C)
  rw[ZcF,Xap,Nat.pow_succ]
  have R:(c.toNat-48)*10^s.length≤9*10^s.length:=Xa8 _ (by omega)
  omega
theorem ZoP {c:UInt8} (j:48≤c.toNat):UInt8.ofNat (48+(c.toNat-48))=c:=by
 rw[show 48+(c.toNat-48)=c.toNat by omega,UInt8.ofNat_toNat]
theorem Cn.ge {s:List UInt8} (h:Cn s) (C:1<s.length):10^(s.length-1)≤dec s:=by
 obtain⟨_,I,j⟩:=h
 cases s with
 |nil=>simp at C
 |cons c s=>
  have j:=j C
  have J:=I c Xah
  have:c.toNat≠48:=fun e=>j (by simp only[List.head?_cons,Xaf];exact UInt8.toNat_inj.1 (by rw[e];rfl))
  rw[ZcF,Xap,Nat.add_sub_cancel]
  have j:1*10^s.length≤(c.toNat-48)*10^s.length:=Xa8 _ (by omega)
  omega
theorem Cn.left {s:List UInt8} {c:UInt8} (h:Cn (s++ [c])) (j:s≠ []):Cn s:=by
 obtain⟨_,C,I⟩:=h
 refine⟨j,C.left,fun J=> ?_⟩
 cases s with
 |nil=>exact absurd rfl j
 |cons x s=>simpa using I (by simp)
theorem Cn.eq {s:List UInt8} (h:Cn s):decDigits (dec s)=s:=by
 have main: ∀ (n:Nat) (s:List UInt8),s.length=n→Cn s→decDigits (dec s)=s:=by
  intro n
  induction n with
  |zero=>intro s j h;exact absurd (XaY.1 j) h.1
  |succ n J=>
   intro s j h
   obtain⟨t,c,rfl⟩: ∃t c,s=t++ [c]:=⟨s.dropLast,s.getLast h.1,(List.dropLast_concat_getLast h.1).symm⟩
   have I:=h.2.1 c (by simp)
   by_cases C:t=[]
   ·subst C
    rw[List.nil_append,Zjo,decDigits_one (by omega),ZoP I.1]
   ·have R:=h.left C
    have U:=J t (by simpa using j) R
    have h3:1≤dec t:=by
     cases t with
     |nil=>exact absurd rfl C
     |cons x t=>
      have h4:=h.2.2 (by simp)
      have hx:=h.2.1 x (by simp)
      have:x.toNat≠48:=fun e=>h4 (by simp only[XbH,List.head?_cons,Xaf];exact UInt8.toNat_inj.1 (by rw[e];rfl))
      rw[ZcF]
      have h5:1*10^t.length≤(x.toNat-48)*10^t.length:=Xa8 _ (by omega)
      have h6:1≤10^t.length:=Nat.one_le_pow _ _ (by decide)
      omega
    rw[Zfd,decDigits,dif_neg (by omega),show(dec t*10+(c.toNat-48))/10=dec t by omega,show(dec t*10+(c.toNat-48)) % 10=c.toNat-48 by omega,U,ZoP I.1]
 exact main _ s rfl h
theorem Zdu {d:Nat} (h:d<10):(UInt8.ofNat (48+d)).toNat=48+d:=by
 rw[UInt8.toNat_ofNat'];omega
theorem Zay (n:Nat):dec (decDigits n)=n:=by
 induction n using Nat.strongRecOn with
 |_ n j=>
  by_cases h:n<10
  ·rw[decDigits_one h,Zjo,Zdu h];omega
  ·rw[decDigits,dif_neg h,Zfd,j _ (by omega),Zdu (by omega)];omega
theorem ZaT (n:Nat):Dg (decDigits n):=by
 induction n using Nat.strongRecOn with
 |_ n C=>
  by_cases h:n<10
  ·rw[decDigits_one h]
   intro c j
   rw[Xat.1 j,Zdu h];omega
  ·rw[decDigits,dif_neg h]
   refine(C _ (by omega)).app ?_
   intro c j
   rw[Xat.1 j,Zdu (by omega)];omega
theorem ZeL (n:Nat):decDigits n≠ []:=fun e=>by
 have:=decDigits_length n
 have h:=nDigits_pos n
 rw[e]at this;simp at this;omega
theorem Zbi (n:Nat):Cn (decDigits n):=by
 refine⟨ZeL n,ZaT n, ?_⟩
 induction n using Nat.strongRecOn with
 |_ n J=>
  by_cases h:n<10
  ·rw[decDigits_one h];simp
  ·rw[decDigits,dif_neg h]
   intro _
   by_cases C:1<(decDigits (n/10)).length
   ·have:=J _ (by omega) C
    cases I:decDigits (n/10)with
    |nil=>exact absurd I (ZeL _)
    |cons x t=>rw[I]at this;simpa using this
   ·have j:n/10<10:=by
     rcases XaO (n/10) 10 with h'|h'
     ·exact h'
     ·rw[decDigits_length,nDigits_big (by omega)]at C
      have:=nDigits_pos (n/10/10)
      omega
    rw[decDigits_one j]
    simp only[XbH,List.nil_append,List.head?_cons,ne_eq,Xaf]
    intro e
    have:=Zdu j
    rw[e]at this
    simp at this
    omega
theorem Cn.inj {s t:List UInt8} (j:Cn s) (C:Cn t) (h:dec s=dec t):s=t:=by rw[←j.eq,←C.eq,h]
theorem ZyI {n k m:Nat} (h:n<10^k) (j:k≤m):n<10^m:=XaJ h (XaW (by decide) j)
theorem ZBe {a b m n:Nat} (k:Nat) (h:a^m≤b^n) {x:Nat} (j:x≤m*k) (C:0<a) {y:Nat} (I:n*k=y):a^x≤b^y:=by
 subst I
 refine XaM (XaW C j) ?_
 rw[Nat.pow_mul,Nat.pow_mul]
 exact Nat.pow_le_pow_left h k
theorem Zbt {n k:Nat} (C:1≤k):(decDigits n).length≤k↔n<10^k:=by
 constructor
 ·intro h
  have h1:=ZbI (ZaT n)
  rw[Zay]at h1
  exact XaJ h1 (XaW (by decide) h)
 ·intro h
  rcases XaO k (decDigits n).length with h1|h1
  ·have j:=(Zbi n).ge (by omega)
   rw[Zay]at j
   have:=XaW (show 0<10 by decide) (show k≤(decDigits n).length-1 by omega)
   omega
  ·exact h1
theorem Zix {s t:List UInt8} (j:Cn s) (C:Cn t) (h:s.length<t.length):dec s<dec t:=by
 have I:=ZbI j.2.1
 have J:1≤s.length:=by
  cases s with
  |nil=>exact absurd rfl j.1
  |cons _ _=>simp
 have R:=C.ge (by omega)
 have:=XaW (show 0<10 by decide) (show s.length≤t.length-1 by omega)
 omega
theorem Zgp: ∀ {s t:List UInt8},Dg s→Dg t→s.length=t.length→(Op.bytesLess s t=true↔dec s<dec t)
 | [],[],_,_,_=>by simp[Op.bytesLess]
 |a::s,b::t,J,R,hl=>by
  have U:Dg s:=fun c C=>J c (Xai _ C)
  have ht:Dg t:=fun c C=>R c (Xai _ C)
  have j:s.length=t.length:=by simpa using hl
  have ih:=Zgp U ht j
  have ha:=J a Xah
  have hb:=R b Xah
  have l1:=ZbI U
  have l2:=ZbI ht
  rw[ZcF,ZcF,j]
  rw[j]at l1
  simp only[Op.bytesLess,Bool.or_eq_true,Xag,decide_eq_true_eq,beq_iff_eq,ih]
  rw[UInt8.lt_iff_toNat_lt]
  rcases Nat.lt_trichotomy a.toNat b.toNat with h|h|h
  ·have:(a.toNat-48+1)*10^t.length≤(b.toNat-48)*10^t.length:=Xa8 _ (by omega)
   rw[Xa4]at this
   simp only[h,true_or,true_iff];omega
  ·have e:a=b:=UInt8.toNat_inj.1 h
   subst e
   simp
  ·have:(b.toNat-48+1)*10^t.length≤(a.toNat-48)*10^t.length:=Xa8 _ (by omega)
   rw[Xa4]at this
   have I:a≠b:=fun e=>by rw[e]at h;omega
   have h3: ¬a.toNat<b.toNat:=by omega
   simp only[h3,I,false_and,or_self,false_iff]
   omega
theorem ZjT {s:List UInt8} (h:Dg s):dec (48::s)=dec s:=by rw[ZcF];simp
def Wd (l:List Int):Prop:= ∀x∈l,0≤x∧x<4294967296
def wv:List Int→Int
 | []=>0
 |x::r=>x+4294967296*wv r
theorem ZdZ: ∀ (l m:List Int),wv (l++m)=wv l+4294967296^l.length*wv m
 | [],m=>by simp[wv]
 |x::l,m=>by
  simp only[XbH,wv,ZdZ l m,Xap,Xba]
  rw[XbI,←Xbx,Int.mul_comm _ 4294967296,Int.add_assoc]
theorem ZbL {l:List Int} {i:Nat} (h:i<l.length):wv (l.take (i+1))=wv (l.take i)+4294967296^i*l[i]:=by
 rw[XaQ h,ZdZ]
 simp[wv,XaL (Nat.le_of_lt h)]
theorem Zcl {l:List Int} {i:Nat} {x:Int} (h:i<l.length):(l.set i x).take (i+1)=l.take i++ [x]:=by
 rw[XaQ (by simpa using h),XbA (Xan _)]
 simp
theorem Zo3 {a b out:List Int} {i:Nat} {c j z:Int} (hi:i<a.length) (C:i<out.length) (I:wv (b.take (i+1))=wv (b.take i)+4294967296^i*z) (J:j=c+a[i]+z)
 (h:wv (out.take i)+4294967296^i*c=wv (a.take i)+wv (b.take i)):wv ((out.set i (j % 4294967296)).take (i+1))+4294967296^(i+1)*(j/4294967296)=wv (a.take (i+1))+wv (b.take (i+1)):=by
 rw[Zcl C,ZdZ,ZbL hi,I,Xas,XaL (Nat.le_of_lt C),Xba]
 have e:j % 4294967296+4294967296*(j/4294967296)=j:=XaS j 4294967296
 have:wv [j % 4294967296]=j % 4294967296:=by simp[wv]
 rw[this,Xbx,Int.add_assoc,←XbI,e,J,XbI,XbI]
 omega
theorem Zpf {a b out:List Int} {i:Nat} {c j z:Int} (hi:i<a.length) (C:i<out.length) (I:wv (b.take (i+1))=wv (b.take i)+4294967296^i*z) (J:j=c+a[i]-z)
 (h:wv (out.take i)+4294967296^i*c=wv (a.take i)-wv (b.take i)):wv ((out.set i (j % 4294967296)).take (i+1))+4294967296^(i+1)*(j/4294967296)=wv (a.take (i+1))-wv (b.take (i+1)):=by
 rw[Zcl C,ZdZ,ZbL hi,I,Xas,XaL (Nat.le_of_lt C),Xba]
 have e:j % 4294967296+4294967296*(j/4294967296)=j:=XaS j 4294967296
 have:wv [j % 4294967296]=j % 4294967296:=by simp[wv]
 rw[this,Xbx,Int.add_assoc,←XbI,e,J,Int.mul_sub,XbI]
 omega
theorem Zbc: ∀ {l:List Int},Wd l→0≤wv l∧wv l<4294967296^l.length
 | [],_=>by simp[wv]
 |x::l,h=>by
  have I:=h x Xah
  have j:=Zbc (l:=l) fun y C=>h y (Xai _ C)
  rw[wv,Xap,Xba]
  generalize(4294967296:Int)^l.length=p at j⊢
  omega
theorem Zrp {a b:List Int} (I:Wd a) (J:Wd b) {m:Nat} (hm:m<a.length) (hl:a.length=b.length) (R:a.drop (m+1)=b.drop (m+1)) (h:a[m]<b[m]):wv a<wv b:=by
 have U:wv a=wv (a.take m)+4294967296^m*(a[m]+4294967296*wv (a.drop (m+1))):=by
  conv=>lhs;rw[←XaR m a]
  rw[ZdZ,Xas,XaL (by omega),Xaz hm];rfl
 have e2:wv b=wv (b.take m)+4294967296^m*(b[m]+4294967296*wv (b.drop (m+1))):=by
  conv=>lhs;rw[←XaR m b]
  rw[ZdZ,Xas,XaL (by omega),Xaz (by omega)];rfl
 have b1:=Zbc (l:=a.take m) fun x j=>I x (XaH j)
 have b2:=Zbc (l:=b.take m) fun x j=>J x (XaH j)
 rw[Xas,XaL (by omega)]at b1
 rw[U,e2,R]
 generalize 4294967296*wv (b.drop (m+1))=t
 have hp:(0:Int)<4294967296^m:=XbB (by decide)
 have:(4294967296:Int)^m*(a[m]+t)+4294967296^m≤4294967296^m*(b[m]+t):=by
  have C:=Xbe (show a[m]+t+1≤b[m]+t by omega) (Xa6 hp)
  rw[XbI,Int.mul_one]at C
  exact C
 omega
def Nz (l:List Int):Prop:= ∀h:l≠ [],l.getLast h≠0
theorem Zoq: ∀ {l:List Int} {i:Nat} {x:Int} (h:i<l.length),wv (l.set i x)=wv l+4294967296^i*(x-l[i])
 | [],i,x,h=>by simp at h
 |y::l,0,x,_=>by simp only[List.set_cons_zero,wv,List.getElem_cons_zero,Int.pow_zero];omega
 |y::l,i+1,x,h=>by
  have j:=Zoq (l:=l) (i:=i) (x:=x) (by simpa using h)
  simp only[List.set_cons_succ,wv,List.getElem_cons_succ,j,Xba]
  grind
theorem ZgS {m n b:Nat} (j:0<b) (h:m≤n):(b:Int)^m≤(b:Int)^n:=by
 have:=XaW j h
 rw[←Xbs,←Xbs]
 exact Int.ofNat_le.2 this
theorem Zml: ∀ {l:List Int},Wd l→Nz l→l≠ []→0<wv l
 | [],_,_,h=>absurd rfl h
 | [x],hw,j,_=>by
  have C:=hw x (by simp)
  have I:x≠0:=j (by simp)
  simp only[wv];omega
 |x::y::l,hw,j,_=>by
  have C:=hw x (by simp)
  have I:0<wv (y::l):=Zml (fun z J=>hw z (Xai _ J)) (fun h=>by
   have:=j (by simp)
   rwa[List.getLast_cons (by simp)]at this) (by simp)
  show 0<x+4294967296*wv (y::l)
  omega
end Dv
