/-
 Whole numbers as fractions; the negative of a fraction.
-/
import Derived.Test.YtdnodlkdndfplaaGreatDoorT17
set_option linter.constructorNameAsVariable false
set_option linter.unusedSimpArgs false
set_option linter.unusedVariables false
namespace Go.Proofs.YtdnodlkdndfplaaGreatDoor
open Go.Am Go.Tx Dv Go.Lib
set_option maxRecDepth 100000
end Go.Proofs.YtdnodlkdndfplaaGreatDoor
/-
 The package nat in plain Lean: what its functions answer on texts.
-/
namespace Dv
open Go Go.Am Go.Lib
def cnB (s:List UInt8):Bool:=Zsu s&&(!s.isEmpty&& !(decide (1<s.length)&&s.head? ==some 48))
def Zat (s:List UInt8):Int:=match cnB s with
 |false=>5
 |true=>match Nat.ble s.length 2000 with
  |true=>0
  |false=>2
theorem Zi1 {s:List UInt8}:Zsu s=true↔Dg s:=by
 unfold Zsu
 rw[List.all_eq_true]
 refine forall_congr' fun c=>forall_congr' fun _=> ?_
 rw[Bool.and_eq_true,Nat.ble_eq,Nat.ble_eq]
theorem ZiN {s:List UInt8}:cnB s=true↔Cn s:=by
 simp only[cnB,Bool.and_eq_true,Zi1,Bool.not_eq_true',Bool.and_eq_false_iff,decide_eq_false_iff_not,beq_eq_false_iff_ne,List.isEmpty_eq_false_iff,Cn,ne_eq]
 constructor
 ·rintro⟨h1,h2,h3⟩
  exact⟨h2,h1,fun h=>h3.resolve_left (by omega)⟩
 ·rintro⟨h1,h2,h3⟩
  refine⟨h2,h1, ?_⟩
  by_cases h:1<s.length
  ·exact .inr (h3 h)
  ·exact .inl h
theorem ZaU {s:List UInt8} (h:Zat s=0):Cn s∧s.length≤2000:=by
 unfold Zat at h
 split at h
 ·cases h
 ·rename_i hc
  split at h
  ·rename_i hl
   exact⟨ZiN.1 hc,Nat.le_of_ble_eq_true hl⟩
  ·cases h
theorem Zob {s:List UInt8} (h:Cn s) (hl:s.length≤2000):Zat s=0:=by
 simp only[Zat,ZiN.2 h,Nat.ble_eq_true_of_le hl]
def ZpJ (n:Nat):List UInt8×Int:=match Nat.ble (decDigits n).length 2000 with
 |true=>(decDigits n,0)
 |false=>([],2)
theorem Znf {n:Nat} (h:n<10^2000):ZpJ n=(decDigits n,0):=by
 have:Nat.ble (decDigits n).length 2000=true:=Nat.ble_eq_true_of_le ((Zbm (k:=2000) (by decide)).2 h)
 simp only[ZpJ,this]
theorem ZrT (n:Nat):ZcX (wOf n)=Nat.ble (decDigits n).length 2000∧(Nat.ble (decDigits n).length 2000=true→ ∀m,ZdT m (wOf n)=(match decide (n=0),m with|false,true=> [45]|_,_=> [])++decDigits n):=by
 by_cases h0:n=0
 ·subst h0
  rw[Zc5,decDigits_one (by decide)]
  refine⟨rfl,fun _ m=> ?_⟩
  cases m<;>rfl
 ·have hne:(wOf n).isEmpty=false:=by
   rw[List.isEmpty_eq_false_iff,ne_eq,Zd7];exact h0
  have hd0:decide (n=0)=false:=decide_eq_false h0
  by_cases hl:(wOf n).length≤210
  ·have hb:Nat.ble (wOf n).length 210=true:=Nat.ble_eq_true_of_le hl
   have hlt:n<10^2100:=Nat.lt_trans (Zda.1 hl) (by decide+kernel)
   have hv:(wv (wOf n)).toNat=n:=by rw[ZbL];omega
   have hdig:ZrI 2100 n=decDigits n:=Zkt 2100 n (by decide) hlt
   refine⟨by simp only[ZcX,hne,hb,hv,hdig],fun _ m=> ?_⟩
   simp only[ZdT,hne,hb,hv,hdig,hd0]
   cases m<;>rfl
  ·have hb:Nat.ble (wOf n).length 210=false:=by
    cases hb:Nat.ble (wOf n).length 210 with
    |false=>rfl
    |true=>exact absurd (Nat.le_of_ble_eq_true hb) hl
   have hge:10^2000≤n:=by
    rcases Nat.lt_or_ge n (10^2000)with h|h
    ·exact absurd (Zda.2 (Nat.lt_trans h (by decide+kernel))) hl
    ·exact h
   have hbl:Nat.ble (decDigits n).length 2000=false:=by
    cases hbl:Nat.ble (decDigits n).length 2000 with
    |false=>rfl
    |true=>
     have:=(Zbm (by decide)).1 (Nat.le_of_ble_eq_true hbl)
     omega
   exact⟨by simp only[ZcX,hne,hb,hbl],fun h=>by rw[hbl]at h;cases h⟩
def Zhm (a b:List UInt8):Int:=match decide (Zat a=0)with
 |true=>Zat b
 |false=>Zat a
theorem Zpx {a b:List UInt8} (h:Zhm a b=0):Zat a=0∧Zat b=0:=by
 unfold Zhm at h
 split at h
 ·rename_i h1;exact⟨of_decide_eq_true h1,h⟩
 ·rename_i h1;exact absurd h (of_decide_eq_false h1)
end Dv
/-
 Rational numbers as texts, in plain Lean.
-/
namespace Dv
open Go Go.Lib
theorem ZhO: ∀ (s:List UInt8) (c:UInt8) (i:Nat),0≤ZbB s c i→ ∃k:Nat,ZbB s c i=((i+k:Nat):Int)∧s=s.take k++c::s.drop (k+1)
 | [],_,_,h=>by rw[ZbB]at h;omega
 |b::l,c,i,h=>by
  rw[ZbB]at h⊢
  cases hb:Nat.beq b.toNat c.toNat with
  |true=>
   have hbc:b=c:=UInt8.toNat_inj.1 (Nat.eq_of_beq_eq_true hb)
   subst hbc
   exact⟨0,rfl,rfl⟩
  |false=>
   rw[hb]at h
   obtain⟨k,h1,h2⟩:=ZhO l c (i+1) h
   refine⟨k+1, ?_, ?_⟩
   ·simp only
    rw[h1]
    congr 1
    omega
   ·rw[List.take_succ_cons,List.drop_succ_cons,List.cons_append,←h2]
theorem ZoD {s:List UInt8} (h:ZbB s 47 0= -1):Zdl s 47=(s,[],false):=by
 rw[Zdl,h]
 rfl
theorem Zoo {s:List UInt8} {k:Nat} (h:ZbB s 47 0=(k:Int)):Zdl s 47=(s.take k,s.drop (k+1),true):=by
 rw[Zdl,h,decide_eq_true (Int.natCast_nonneg k),Int.toNat_natCast]
theorem ZmN {s:List UInt8} (h:(Zdl s 47).2.2=false):Zdl s 47=(s,[],false):=by
 unfold Zdl at h⊢
 cases hd:decide (0≤ZbB s 47 0)with
 |true=>rw[hd]at h;cases h
 |false=>rfl
def mns (m:Bool) (s:List UInt8):List UInt8:=match m with
 |true=>45::s
 |false=>s
def Znm (a:List UInt8):Bool:=a.head? ==some 45
def Zhv (a:List UInt8):List UInt8:=match Znm a with
 |true=>a.drop 1
 |false=>a
def ZpO (a:List UInt8):List UInt8:=(Zdl (Zhv a) 47).1
def Zmo (a:List UInt8):List UInt8:=(Zdl (Zhv a) 47).2.1
def rIs (a:List UInt8):Bool:=(Zdl (Zhv a) 47).2.2
def rE1 (a:List UInt8):Int:=Zat (ZpO a)
def rE2 (a:List UInt8):Int:=match rIs a with
 |true=>Zat (Zmo a)
 |false=>0
def ZsA (a:List UInt8):Bool:=rIs a&&(decide (dec (Zmo a)=0)||(decide (dec (Zmo a)=1)|| !decide (Nat.gcd (dec (ZpO a)) (dec (Zmo a))=1)))
def ZbM (a:List UInt8):Int:=match decide (rE1 a=5)||(decide (rE2 a=5)||(ZpO a==[48]&&Znm a))with
 |true=>5
 |false=>match decide (rE1 a=0)&&decide (rE2 a=0)with
  |false=>2
  |true=>match ZsA a with
   |true=>3
   |false=>0
theorem Zpi (a:List UInt8):mns (Znm a) (Zhv a)=a:=by
 rw[Zhv]
 cases h:Znm a with
 |false=>rfl
 |true=>
  cases a with
  |nil=>cases h
  |cons b l=>
   have:b=45:=by simpa[Znm]using h
   subst this
   rfl
theorem ZrQ {s:List UInt8} (hs:Cn s):dec s=0↔s=[48]:=by
 constructor
 ·intro h
  have:=hs.eq
  rw[h,decDigits_one (by decide)]at this
  exact this.symm
 ·rintro rfl;rfl
theorem ZsE {s:List UInt8} (hs:Cn s):dec s=1↔s=[49]:=by
 constructor
 ·intro h
  have:=hs.eq
  rw[h,decDigits_one (by decide)]at this
  exact this.symm
 ·rintro rfl;rfl
theorem Zun {s:List UInt8} (h:Cn s):(s==[48])=decide (dec s=0):=by
 rw[Bool.eq_iff_iff,beq_iff_eq,decide_eq_true_eq,ZrQ h]
theorem ZtC {s:List UInt8} (h:Cn s):(s==[49])=decide (dec s=1):=by
 rw[Bool.eq_iff_iff,beq_iff_eq,decide_eq_true_eq,ZsE h]
theorem Zn3 (s:List UInt8) (c:UInt8):(Zdl s c).1.length≤s.length∧(Zdl s c).2.1.length≤s.length:=by
 unfold Zdl
 cases decide (0≤ZbB s c 0)with
 |true=>simp only[List.length_take,List.length_drop];omega
 |false=>simp
theorem ZoN (a:List UInt8):(Zhv a).length≤a.length∧decide (((Zhv a).length:Int)<(a.length:Int))=Znm a:=by
 have h:=congrArg List.length (Zpi a)
 cases hn:Znm a with
 |true=>
  rw[hn]at h
  simp only[mns,List.length_cons]at h
  exact⟨by omega,decide_eq_true (by omega)⟩
 |false=>
  rw[hn]at h
  simp only[mns]at h
  exact⟨by omega,decide_eq_false (by omega)⟩
def Zfu (E1 E2:Int) (z m bad:Bool):Int:=match decide (E1=5)||(decide (E2=5)||(z&&m))with
 |true=>5
 |false=>match decide (E1=0)&&decide (E2=0)with
  |false=>2
  |true=>match bad with
   |true=>3
   |false=>0
theorem ZfJ (a:List UInt8):ZbM a=Zfu (Zat (ZpO a)) (rE2 a) (ZpO a==[48]) (Znm a) (ZsA a):=rfl
def Zf7:List (List UInt8)→Int
 | []=>0
 |a::l=>match decide (ZbM a=0)with
  |true=>Zf7 l
  |false=>ZbM a
end Dv
/-
 large.Ratio: a fraction in lowest terms.
-/
namespace Go.Proofs.YtdnodlkdndfplaaGreatDoor
open Go.Am Go.Tx Dv Go.Lib
set_option maxRecDepth 100000
end Go.Proofs.YtdnodlkdndfplaaGreatDoor
/-
 The operations of large.Rat on rational numbers.
-/
namespace Go.Proofs.YtdnodlkdndfplaaGreatDoor
open Go.Am Go.Tx Dv Go.Lib
set_option maxRecDepth 100000
end Go.Proofs.YtdnodlkdndfplaaGreatDoor
/-
 strings.Index, Contains, Cut at a text of one byte.
-/
namespace Go.Proofs.YtdnodlkdndfplaaGreatDoor
open Go.Am Go.Tx Dv Go.Lib
set_option maxRecDepth 100000
theorem Zse (s:List UInt8) (c:UInt8):PureOK Tryz.prog Zau 168 [.v .s s, .v .s [c]] (fun V=>V= .v (.i .i64) (ZbB s c 0)):=by
 refine⟨fun qs hr=> ?_⟩
 simp only[RL,RV,RR,List.cons.injEq,and_true]at hr
 obtain⟨_,_,rfl,rfl,_,_,rfl,rfl,rfl⟩:=hr
 refine⟨.int .i64 (ZbB s c 0),_, ?_, ?_,rfl⟩
 ·show(indexG [.str ⟨s.toArray⟩, .str ⟨[c].toArray⟩]).bind (fun v=>exp Zav [] v)=_
  rfl
 ·simp only[RV,RR]
theorem Zq4 (s:List UInt8) (c:UInt8): -1≤ZbB s c 0∧ZbB s c 0<s.length:=by
 have h: ∀ (l:List UInt8) (i:Nat),-1≤ZbB l c i∧ZbB l c i<i+l.length∨ZbB l c i= -1:=by
  intro l
  induction l with
  |nil=>intro i;right;rfl
  |cons b l ih=>
   intro i
   rw[ZbB]
   cases Nat.beq b.toNat c.toNat with
   |true=>left;simp only[List.length_cons];omega
   |false=>
    simp only
    rcases ih (i+1)with h|h
    ·left;simp only[List.length_cons];omega
    ·right;exact h
 rcases h s 0 with h|h<;>omega
theorem Ztc (s:List UInt8) (c:UInt8) (hl:s.length≤9223372036854775806):PureOK Tryz.prog Zau 146 [.v .s s, .v .s [c]] (fun V=>V= .tup [.v .s (Zdl s c).1, .v .s (Zdl s c).2.1, .v .b (Zdl s c).2.2]):=by
 refine Zaj Zao Tryz.func146 ?_
 have hi:=Zq4 s c
 refine(Zse s c).mono ?_
 rintro _ rfl
 obtain⟨k,hk⟩: ∃k,ZbB s c 0=k:=⟨_,rfl⟩
 have hcut:Zdl s c=match decide (0≤k)with|true=>(s.take k.toNat,s.drop (k.toNat+1),true)|false=>(s,[],false):=by rw[←hk];rfl
 rw[hk]at hi⊢
 refine And.intro (fun h=> ?_) (fun h=> ?_)
 ·have h':decide (0≤k)=true:=h
  have h0:0≤k:=of_decide_eq_true h'
  have e1:IntKind.i64.wrap (k+1)=k+1:=Zan (by omega) (by omega)
  refine And.intro (show 0≤k∧k≤(s.length:Int)from⟨h0,by omega⟩) ?_
  refine And.intro (by show 0≤IntKind.i64.wrap (k+1)∧IntKind.i64.wrap (k+1)≤(s.length:Int);rw[e1];omega) ?_
  have e2:List.drop (IntKind.i64.wrap (k+1)).toNat (List.take s.length s)=s.drop (k.toNat+1):=by
   rw[e1,List.take_length,show(k+1).toNat=k.toNat+1 by omega]
  show SV.tup [.v .s (List.drop 0 (List.take k.toNat s)), .v .s (List.drop (IntKind.i64.wrap (k+1)).toNat (List.take s.length s)), .v .b true]=_
  rw[e2,hcut,h']
  rfl
 ·have h':decide (0≤k)=false:=h
  rw[hcut,h']
  rfl
theorem Zt1 (s:List UInt8) (c:UInt8) (hl:s.length≤9223372036854775806):PureOK Tryz.prog Zau 106 [.v .s s, .v .s [c]] (fun V=>V= .tup [.v .s (Zdl s c).1, .v .s (Zdl s c).2.1, .v .b (Zdl s c).2.2]):=by
 refine Zaj Zao Tryz.func106 ?_
 refine(Ztc s c hl).mono ?_
 rintro _ rfl
 rfl
end Go.Proofs.YtdnodlkdndfplaaGreatDoor
