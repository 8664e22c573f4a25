/-
 Rational numbers as texts, in plain Lean.
-/
import Derived.Test.YtdnodlkdndfplaaGreatDoorT17
set_option linter.constructorNameAsVariable false
set_option linter.unusedSimpArgs false
set_option linter.unusedVariables false
namespace Dv
open Go Go.Lib
theorem ZhW: ∀ {s:List UInt8},Dg s→ ∀i,ZbE s 47 i= -1
 | [],_,_=>rfl
 |b::l,h,i=>by
  have hb:=(h b List.mem_cons_self).1
  have hf:Nat.beq b.toNat (47:UInt8).toNat=false:=by
   cases hx:Nat.beq b.toNat (47:UInt8).toNat with
   |false=>rfl
   |true=>rw[Nat.eq_of_beq_eq_true hx]at hb;exact absurd hb (by decide)
  rw[ZbE,hf]
  exact ZhW (fun c hc=>h c (List.mem_cons_of_mem _ hc)) _
theorem Zkv: ∀ {s:List UInt8},Dg s→ ∀ (t:List UInt8) (i:Nat),ZbE (s++47::t) 47 i=((i+s.length:Nat):Int)
 | [],_,t,i=>by
  rw[List.nil_append,ZbE]
  rfl
 |b::l,h,t,i=>by
  have hb:=(h b List.mem_cons_self).1
  have hf:Nat.beq b.toNat (47:UInt8).toNat=false:=by
   cases hx:Nat.beq b.toNat (47:UInt8).toNat with
   |false=>rfl
   |true=>rw[Nat.eq_of_beq_eq_true hx]at hb;exact absurd hb (by decide)
  rw[List.cons_append,ZbE,hf]
  simp only
  rw[Zkv (fun c hc=>h c (List.mem_cons_of_mem _ hc)) t (i+1),List.length_cons]
  congr 1
  omega
theorem ZgK: ∀ (s:List UInt8) (c:UInt8) (i:Nat),0≤ZbE s c i→ ∃k:Nat,ZbE s c i=((i+k:Nat):Int)∧s=s.take k++c::s.drop (k+1)
 | [],_,_,h=>by rw[ZbE]at h;omega
 |b::l,c,i,h=>by
  rw[ZbE]at h⊢
  cases hb:Nat.beq b.toNat c.toNat with
  |true=>
   have hbc:b=c:=UInt8.toNat_inj.1 (Nat.eq_of_beq_eq_true hb)
   subst hbc
   exact⟨0,rfl,rfl⟩
  |false=>
   rw[hb]at h
   obtain⟨k,h1,h2⟩:=ZgK l c (i+1) h
   refine⟨k+1, ?_, ?_⟩
   ·simp only
    rw[h1]
    congr 1
    omega
   ·rw[List.take_succ_cons,List.drop_succ_cons,List.cons_append,←h2]
theorem ZfM {s:List UInt8} (h:ZbE s 47 0= -1):Zc7 s 47=(s,[],false):=by
 rw[Zc7,h]
 rfl
theorem Zgo {s:List UInt8} {k:Nat} (h:ZbE s 47 0=(k:Int)):Zc7 s 47=(s.take k,s.drop (k+1),true):=by
 rw[Zc7,h,decide_eq_true (Int.natCast_nonneg k),Int.toNat_natCast]
theorem ZtO {s:List UInt8} (h:(Zc7 s 47).2.2=true):s=(Zc7 s 47).1++47::(Zc7 s 47).2.1:=by
 cases hd:decide (0≤ZbE s 47 0)with
 |true=>
  obtain⟨k,h1,h2⟩:=ZgK s 47 0 (of_decide_eq_true hd)
  rw[Nat.zero_add]at h1
  rw[Zgo h1]
  exact h2
 |false=>
  unfold Zc7 at h
  rw[hd]at h
  cases h
theorem Zj8 {s:List UInt8} (h:(Zc7 s 47).2.2=false):Zc7 s 47=(s,[],false):=by
 unfold Zc7 at h⊢
 cases hd:decide (0≤ZbE s 47 0)with
 |true=>rw[hd]at h;cases h
 |false=>rfl
def mns (m:Bool) (s:List UInt8):List UInt8:=match m with
 |true=>45::s
 |false=>s
def ZbG (d:Nat):List UInt8:=match decide (d=1)with
 |true=> []
 |false=>47::decDigits d
def Zbj (q:Rat):List UInt8:=mns (decide (q.num<0)) (decDigits q.num.natAbs++ZbG q.den)
def Zri (q:Rat):Bool:=Nat.ble (decDigits q.num.natAbs).length 2000&&Nat.ble (decDigits q.den).length 2000
def Zkj (a:List UInt8):Bool:=a.head? ==some 45
def Zf2 (a:List UInt8):List UInt8:=match Zkj a with
 |true=>a.drop 1
 |false=>a
def ZfP (a:List UInt8):List UInt8:=(Zc7 (Zf2 a) 47).1
def Zlu (a:List UInt8):List UInt8:=(Zc7 (Zf2 a) 47).2.1
def rIs (a:List UInt8):Bool:=(Zc7 (Zf2 a) 47).2.2
def rE1 (a:List UInt8):Int:=Zav (ZfP a)
def rE2 (a:List UInt8):Int:=match rIs a with
 |true=>Zav (Zlu a)
 |false=>0
def Zwg (a:List UInt8):Bool:=rIs a&&(decide (dec (Zlu a)=0)||(decide (dec (Zlu a)=1)|| !decide (Nat.gcd (dec (ZfP a)) (dec (Zlu a))=1)))
def ZbD (a:List UInt8):Int:=match decide (rE1 a=5)||(decide (rE2 a=5)||(ZfP a==[48]&&Zkj a))with
 |true=>5
 |false=>match decide (rE1 a=0)&&decide (rE2 a=0)with
  |false=>2
  |true=>match Zwg a with
   |true=>3
   |false=>0
theorem Zpx {m:Bool} {s:List UInt8} (h:s.head?≠some 45):Zkj (mns m s)=m:=by
 cases m with
 |true=>rfl
 |false=>simpa[Zkj,mns]using h
theorem ZuV {m:Bool} {s:List UInt8} (h:s.head?≠some 45):Zf2 (mns m s)=s:=by
 rw[Zf2,Zpx h]
 cases m<;>rfl
theorem Zll (a:List UInt8):mns (Zkj a) (Zf2 a)=a:=by
 rw[Zf2]
 cases h:Zkj a with
 |false=>rfl
 |true=>
  cases a with
  |nil=>cases h
  |cons b l=>
   have:b=45:=by simpa[Zkj]using h
   subst this
   rfl
theorem ZxY {s t:List UInt8} (h:Dg s) (hs:s≠ []):(s++t).head?≠some 45:=by
 cases s with
 |nil=>exact absurd rfl hs
 |cons b l=>
  intro he
  have hb:=(h b List.mem_cons_self).1
  have:b=45:=by simpa using he
  subst this
  exact absurd hb (by decide)
theorem Zit (n d:Nat):(decDigits n++ZbG d).head?≠some 45:=ZxY (ZaK n) (Zeo n)
theorem Zgg (n d:Nat):Zc7 (decDigits n++ZbG d) 47=match decide (d=1)with
 |true=>(decDigits n,[],false)
 |false=>(decDigits n,decDigits d,true):=by
 unfold ZbG
 cases decide (d=1)with
 |true=>
  simp only[List.append_nil]
  exact ZfM (ZhW (ZaK n) 0)
 |false=>
  simp only
  have h:=Zkv (ZaK n) (decDigits d) 0
  rw[Nat.zero_add]at h
  rw[Zgo h,List.take_left',List.drop_append]
  ·simp
  ·rfl
theorem ZfG (q:Rat):Zf2 (Zbj q)=decDigits q.num.natAbs++ZbG q.den:=ZuV (Zit _ _)
theorem ZiK (q:Rat):Zkj (Zbj q)=decide (q.num<0):=Zpx (Zit _ _)
theorem ZmT (q:Rat):ZfP (Zbj q)=decDigits q.num.natAbs:=by
 rw[ZfP,ZfG,Zgg]
 cases decide (q.den=1)<;>rfl
theorem ZoP (q:Rat):rIs (Zbj q)= !decide (q.den=1):=by
 rw[rIs,ZfG,Zgg]
 cases decide (q.den=1)<;>rfl
theorem Zl8 (q:Rat):Zlu (Zbj q)=match decide (q.den=1)with|true=> []|false=>decDigits q.den:=by
 rw[Zlu,ZfG,Zgg]
 cases decide (q.den=1)<;>rfl
theorem Zfu {q:Rat}:Zri q=true↔(decDigits q.num.natAbs).length≤2000∧(decDigits q.den).length≤2000:=by
 rw[Zri,Bool.and_eq_true,Nat.ble_eq,Nat.ble_eq]
theorem ZtE {s:List UInt8} (hs:Cn s):dec s=0↔s=[48]:=by
 constructor
 ·intro h
  have:=hs.eq
  rw[h,decDigits_one (by decide)]at this
  exact this.symm
 ·rintro rfl;rfl
theorem Zz7 {s:List UInt8} (hs:Cn s):dec s=1↔s=[49]:=by
 constructor
 ·intro h
  have:=hs.eq
  rw[h,decDigits_one (by decide)]at this
  exact this.symm
 ·rintro rfl;rfl
theorem Zom {a:List UInt8} (h:ZbD a=0): ∃q:Rat,a=Zbj q∧Zri q=true:=by
 unfold ZbD at h
 cases h1:decide (rE1 a=5)||(decide (rE2 a=5)||(ZfP a==[48]&&Zkj a))with
 |true=>rw[h1]at h;cases h
 |false=>
 cases h2:decide (rE1 a=0)&&decide (rE2 a=0)with
 |false=>rw[h1,h2]at h;cases h
 |true=>
 cases h3:Zwg a with
 |true=>rw[h1,h2,h3]at h;cases h
 |false=>
 rw[Bool.or_eq_false_iff,Bool.or_eq_false_iff]at h1
 rw[Bool.and_eq_true,decide_eq_true_eq,decide_eq_true_eq]at h2
 obtain⟨c1,l1⟩:=Za3 h2.1
 have hs:Zkj a=true→dec (ZfP a)≠0:=fun hn h0=>by
  have:=h1.2.2
  rw[hn,(ZtE c1).1 h0]at this
  cases this
 have hd: ∃d:Nat,Zf2 a=decDigits (dec (ZfP a))++ZbG d∧d≠0∧Nat.gcd (dec (ZfP a)) d=1∧(decDigits d).length≤2000:=by
  cases hi:rIs a with
  |true=>
   have e2:=h2.2
   rw[rE2,hi]at e2
   obtain⟨c2,l2⟩:=Za3 e2
   rw[Zwg,hi,Bool.true_and,Bool.or_eq_false_iff,Bool.or_eq_false_iff,Bool.not_eq_false',decide_eq_false_iff_not,decide_eq_false_iff_not,decide_eq_true_eq]at h3
   refine⟨dec (Zlu a), ?_,h3.1,h3.2.2,by rw[c2.eq];exact l2⟩
   rw[ZbG,decide_eq_false h3.2.1,c1.eq,c2.eq]
   exact ZtO hi
  |false=>
   refine⟨1, ?_,by decide,Nat.gcd_one_right _,by rw[decDigits_one (by decide)];decide⟩
   have e:=Zj8 hi
   have e1:ZfP a=Zf2 a:=by rw[ZfP,e]
   rw[c1.eq,e1]
   simp[ZbG]
 obtain⟨d,hd1,hd2,hd3,hd4⟩:=hd
 cases hn:Zkj a with
 |true=>
  refine⟨⟨-(dec (ZfP a):Int),d,hd2,by show Nat.gcd (-(dec (ZfP a):Int)).natAbs d=1;rw[Int.natAbs_neg,Int.natAbs_natCast];exact hd3⟩, ?_, ?_⟩
  ·have h0:=hs hn
   refine(Zll a).symm.trans ?_
   rw[hn,hd1,Zbj]
   show mns true _=mns (decide (-(dec (ZfP a):Int)<0)) (decDigits (-(dec (ZfP a):Int)).natAbs++ZbG d)
   rw[Int.natAbs_neg,Int.natAbs_natCast,decide_eq_true (by omega: -(dec (ZfP a):Int)<0)]
  ·refine Zfu.2 ⟨?_,hd4⟩
   show(decDigits (-(dec (ZfP a):Int)).natAbs).length≤2000
   rw[Int.natAbs_neg,Int.natAbs_natCast,c1.eq]
   exact l1
 |false=>
  refine⟨⟨(dec (ZfP a):Int),d,hd2,by show Nat.gcd (dec (ZfP a):Int).natAbs d=1;rw[Int.natAbs_natCast];exact hd3⟩, ?_, ?_⟩
  ·refine(Zll a).symm.trans ?_
   rw[hn,hd1,Zbj]
   show mns false _=mns (decide ((dec (ZfP a):Int)<0)) (decDigits (dec (ZfP a):Int).natAbs++ZbG d)
   rw[Int.natAbs_natCast,decide_eq_false (by omega: ¬ (dec (ZfP a):Int)<0)]
  ·refine Zfu.2 ⟨?_,hd4⟩
   show(decDigits (dec (ZfP a):Int).natAbs).length≤2000
   rw[Int.natAbs_natCast,c1.eq]
   exact l1
theorem ZuR {p q:Rat} (h:Zbj p=Zbj q):p=q:=by
 have h1:=ZmT p
 rw[h,ZmT]at h1
 have h2:=ZiK p
 rw[h,ZiK]at h2
 have h3:=Zl8 p
 rw[h,Zl8]at h3
 have h4:=ZoP p
 rw[h,ZoP]at h4
 have e1:q.num.natAbs=p.num.natAbs:=by rw[←Zan q.num.natAbs,h1,Zan]
 refine Rat.ext ?_ ?_
 ·have:=decide_eq_decide.1 h2
  omega
 ·cases hp:decide (p.den=1)with
  |true=>
   rw[hp]at h4
   have:q.den=1:=by simpa using h4
   rw[of_decide_eq_true hp,this]
  |false=>
   have hq:decide (q.den=1)=false:=by rw[hp]at h4;simpa using h4
   rw[hp,hq]at h3
   simp only at h3
   rw[←Zan p.den,←h3,Zan]
theorem Zxj {q:Rat} (h:Zri q=true):(Zbj q).length≤4002:=by
 obtain⟨h1,h2⟩:=Zfu.1 h
 have hf:(ZbG q.den).length≤2001:=by
  unfold ZbG
  cases decide (q.den=1)with
  |true=>simp
  |false=>simp only[List.length_cons];omega
 have hm: ∀ (m:Bool) (s:List UInt8),(mns m s).length≤s.length+1:=fun m s=>by cases m<;>simp[mns]
 have:=hm (decide (q.num<0)) (decDigits q.num.natAbs++ZbG q.den)
 rw[List.length_append]at this
 rw[Zbj]
 omega
theorem ZBm {s:List UInt8} (h:Cn s):(s==[48])=decide (dec s=0):=by
 rw[Bool.eq_iff_iff,beq_iff_eq,decide_eq_true_eq,ZtE h]
theorem ZyK {s:List UInt8} (h:Cn s):(s==[49])=decide (dec s=1):=by
 rw[Bool.eq_iff_iff,beq_iff_eq,decide_eq_true_eq,Zz7 h]
theorem Ztt (s:List UInt8) (c:UInt8):(Zc7 s c).1.length≤s.length∧(Zc7 s c).2.1.length≤s.length:=by
 unfold Zc7
 cases decide (0≤ZbE s c 0)with
 |true=>simp only[List.length_take,List.length_drop];omega
 |false=>simp
theorem ZsO (a:List UInt8):(Zf2 a).length≤a.length∧decide (((Zf2 a).length:Int)<(a.length:Int))=Zkj a:=by
 have h:=congrArg List.length (Zll a)
 cases hn:Zkj a with
 |true=>
  rw[hn]at h
  simp only[mns,List.length_cons]at h
  exact⟨by omega,decide_eq_true (by omega)⟩
 |false=>
  rw[hn]at h
  simp only[mns]at h
  exact⟨by omega,decide_eq_false (by omega)⟩
def Zgv (E1 E2:Int) (z m bad:Bool):Int:=match decide (E1=5)||(decide (E2=5)||(z&&m))with
 |true=>5
 |false=>match decide (E1=0)&&decide (E2=0)with
  |false=>2
  |true=>match bad with
   |true=>3
   |false=>0
theorem Zhd (a:List UInt8):ZbD a=Zgv (Zav (ZfP a)) (rE2 a) (ZfP a==[48]) (Zkj a) (Zwg a):=rfl
def Zfo:List (List UInt8)→Int
 | []=>0
 |a::l=>match decide (ZbD a=0)with
  |true=>Zfo l
  |false=>ZbD a
theorem Zj3: ∀ {l:List (List UInt8)},Zfo l=0→ ∀a∈l,ZbD a=0
 | [],_,_,h=>absurd h List.not_mem_nil
 |b::l,h,a,ha=>by
  rw[Zfo]at h
  cases hb:decide (ZbD b=0)with
  |true=>
   rw[hb]at h
   rcases List.mem_cons.1 ha with rfl|ha
   ·exact of_decide_eq_true hb
   ·exact Zj3 h a ha
  |false=>rw[hb]at h;exact absurd h (of_decide_eq_false hb)
theorem Zx4 (m:Bool) (n d:Nat):Zc7 (mns m (decDigits n++ZbG d)) 47=match decide (d=1)with
 |true=>(mns m (decDigits n),[],false)
 |false=>(mns m (decDigits n),decDigits d,true):=by
 cases m with
 |false=>exact Zgg n d
 |true=>
  have e:ZbE (mns true (decDigits n++ZbG d)) 47 0=ZbE (decDigits n++ZbG d) 47 1:=rfl
  cases hd:decide (d=1)with
  |true=>
   have hf:ZbG d=[]:=by rw[ZbG,hd]
   rw[hf,List.append_nil]at e⊢
   rw[ZhW (ZaK n)]at e
   exact ZfM e
  |false=>
   have hf:ZbG d=47::decDigits d:=by rw[ZbG,hd]
   rw[hf]at e⊢
   rw[Zkv (ZaK n)]at e
   rw[Zgo e,mns,Nat.add_comm,List.take_succ_cons,List.take_left',List.drop_succ_cons,List.drop_append]
   ·simp[mns]
   ·rfl
theorem Zi5:Zbj 0=[48]:=by
 rw[Zbj,Rat.zero_num,Rat.zero_den]
 show mns false (decDigits 0++ZbG 1)=[48]
 rw[decDigits_one (by decide)]
 rfl
theorem Zhr (q:Rat):(Zbj q==[48])=decide (q=0):=by
 rw[Bool.eq_iff_iff,beq_iff_eq,decide_eq_true_eq,←Zi5]
 exact⟨ZuR,fun h=>by rw[h]⟩
end Dv
/-
 large.Ratio: a fraction in lowest terms.
-/
namespace Go.Proofs.YtdnodlkdndfplaaGreatDoor
open Go.Am Go.Tx Dv Go.Lib
set_option maxRecDepth 100000
abbrev QR (q:Rat):SV:=QS q.num (q.den:Int)
theorem Zpi {n:Nat} (h:((wOf n).length:Int)=1) {x:Int} (hx:(wOf n)[(0:Int).toNat]? =some x) (h1:x=1):n=1:=by
 have hv:=ZbX n
 obtain⟨w,hw⟩: ∃w,wOf n=w:=⟨_,rfl⟩
 rw[hw]at h hx hv
 match w,h,hx,hv with
 | [y],_,hx,hv=>
  have hy:y=x:=by simpa using hx
  rw[hy,h1]at hv
  simp only[wv]at hv
  omega
 | [],h,_,_=>simp at h
 |_::_::_,h,_,_=>simp only[List.length_cons]at h;omega
theorem Zdr {n d:Int} (hd:0<d):(Rat.divInt n d).num=n/(Int.gcd n d:Int)∧((Rat.divInt n d).den:Int)=d/(Int.gcd n d:Int):=by
 rw[Rat.num_divInt,Rat.den_divInt,Int.sign_eq_one_of_pos hd,if_neg (by omega),Int.one_mul,Int.gcd_comm d n,Int.natCast_ediv,Int.natAbs_of_nonneg (by omega)]
 exact⟨rfl,rfl⟩
theorem ZqJ (n:Int) {d:Int} (h:d.natAbs=1) (hd:0<d):QR (Rat.divInt n d)=QS n d:=by
 have:d=1:=by omega
 subst this
 obtain⟨h1,h2⟩:=Zdr (n:=n) (d:=1) (by decide)
 rw[Int.gcd_one,Int.natCast_one,Int.ediv_one]at h1 h2
 show QS _ _=_
 rw[h1,h2]
theorem Zqj (n:Int) {d:Int} (h:(Int.gcd n d:Int).natAbs=1) (hd:0<d):QR (Rat.divInt n d)=QS n d:=by
 obtain⟨h1,h2⟩:=Zdr (n:=n) hd
 have hg:(Int.gcd n d:Int)=1:=by omega
 rw[hg,Int.ediv_one]at h1 h2
 show QS _ _=_
 rw[h1,h2]
theorem Zsf {n g:Int} (hg:0<g) (hdv:g∣n):(match decide (n<0)with|true=>decide ((0:Int)<((wOf ((n.natAbs:Int)/g).natAbs).length:Int))|false=>false)=decide (n/g<0)∧((n.natAbs:Int)/g).natAbs=(n/g).natAbs:=by
 obtain⟨k,rfl⟩:=hdv
 rw[Int.mul_ediv_cancel_left _ (by omega),Int.natAbs_mul,Int.natCast_mul,Int.natAbs_of_nonneg (by omega),Int.mul_ediv_cancel_left _ (by omega),Int.natAbs_natCast]
 refine⟨?_,rfl⟩
 by_cases hk:k<0
 ·rw[decide_eq_true (Int.mul_neg_of_pos_of_neg hg hk),decide_eq_true hk]
  refine decide_eq_true ?_
  have:wOf k.natAbs≠ []:=by rw[ne_eq,Zen];omega
  have:=List.length_pos_iff.2 this
  omega
 ·rw[decide_eq_false (by have:=Int.mul_nonneg (a:=g) (b:=k) (by omega) (by omega);omega),decide_eq_false hk]
def ZBk (m:Bool) (n d:Int) (z:List SV):List SM:=[.cell [.v .b m,Za1 (wOf n.natAbs)] true, .cell [.v .b (decide (d<0)),Za1 (wOf d.natAbs)] true, .cell z true]
def ZAo (m:Bool) (n d g:Int) (z:List SV):List SM:=[.cell [.v .b m,Za1 (wOf n.natAbs)] true, .cell [.v .b (decide (d<0)),Za1 (wOf d.natAbs)] true, .cell z true, .cell [.v .b (decide (g<0)),Za1 (wOf g.natAbs)] true]
def ZyG:List SV:=[.v .b false, .nils, .v .b false, .nils]
set_option maxHeartbeats 8000000 in
theorem Znq (n d:Int) (hd0:d≠0) (hln:ln n≤700000000) (hld:ln d≤700000000):PureOK Tryz.prog Zam 102 [IS n,IS d] (fun V=>V=QR (Rat.divInt n d)):=by
 refine Zab Zaa Tryz.func102 ?_
 refine And.intro rfl ?_
 refine And.intro (fun h=> ?_) (fun h=> ?_)
 have hneg:d<0:=of_decide_eq_true h
 obtain⟨n',hn'⟩: ∃n',-n=n':=⟨_,rfl⟩
 obtain⟨d',hd'⟩: ∃d',-d=d':=⟨_,rfl⟩
 have hN:=Zvb n (by omega)
 have hD:=Zvb d (by omega)
 rw[hn']at hN
 rw[hd']at hD
 have hq:Rat.divInt n d=Rat.divInt n' d':=by rw[←hn',←hd',Rat.neg_divInt_neg]
 have hd:0<d':=by omega
 have hln':ln n'≤700000000:=by rw[←hn',ZoA];exact hln
 have hld':ln d'≤700000000:=by rw[←hd',ZoA];exact hld
 refine And.intro rfl ?_
 refine hN.mono ?_
 rintro _ rfl
 refine And.intro rfl ?_
 refine hD.mono ?_
 rintro _ rfl
 refine And.intro rfl ?_
 refine And.intro rfl ?_
 refine ZlU (ZBk (decide (n'<0)) n' d' ZyG) rfl ?_
 rotate_left 1
 obtain⟨n',hn'⟩: ∃n',n'=n:=⟨_,rfl⟩
 obtain⟨d',hd'⟩: ∃d',d'=d:=⟨_,rfl⟩
 have hq:Rat.divInt n d=Rat.divInt n' d':=by rw[hn',hd']
 have hd:0<d':=by
  have:=of_decide_eq_false h
  omega
 have hln':ln n'≤700000000:=by rw[hn'];exact hln
 have hld':ln d'≤700000000:=by rw[hd'];exact hld
 subst hn' hd'
 refine ZlU (ZBk (decide (n'<0)) n' d' ZyG) rfl ?_
 all_goals
  rw[hq]
  have hG:=ZzU n' d' hln' hld'
  obtain⟨g,hg⟩: ∃g:Int,(Int.gcd n' d':Int)=g:=⟨_,rfl⟩
  have hg0:0<g:=by
   have:0<Int.gcd n' d':=Int.gcd_pos_of_ne_zero_right _ (by omega)
   omega
  have hlg:ln g≤700000000:=by
   refine Nat.le_trans (Zix (b:=d') ?_) hld'
   have:Int.gcd n' d'∣d'.natAbs:=Int.gcd_dvd_natAbs_right _ _
   have:=Nat.le_of_dvd (by omega) this
   omega
  have hdn:g∣n':=by rw[←hg];exact Int.gcd_dvd_left _ _
  obtain⟨q1,q2⟩:=Zdr (n:=n') hd
  have hone:=Zqj n' (d:=d')
  rw[hg]at hG q1 q2 hone
  have hA:=ZoF (n'.natAbs:Int) g hg0 (by rw[ln,Int.natAbs_natCast];exact hln') hlg
  rw[ZpM]at hA
  have hB:=ZoF d' g hg0 hld' hlg
  obtain⟨s1,s2⟩:=Zsf (n:=n') hg0 hdn
  obtain⟨A,eA⟩: ∃A,(n'.natAbs:Int)/g=A:=⟨_,rfl⟩
  obtain⟨Ar,eAr⟩: ∃A,(n'.natAbs:Int) % g=A:=⟨_,rfl⟩
  obtain⟨B,eB⟩: ∃A,d'/g=A:=⟨_,rfl⟩
  obtain⟨Br,eBr⟩: ∃A,d' % g=A:=⟨_,rfl⟩
  rw[eA,eAr]at hA
  rw[eB,eBr]at hB
  rw[eA]at s1 s2
  rw[eB]at q2
  first|refine Zay (ZaD rfl ?_)|refine Zay (Zay (ZaD rfl ?_))
  refine Zah ?_
  refine Zcq rfl (fun _=>rfl) rfl rfl rfl ?_
  iterate 3 refine Zah ?_
  refine @Classical.byCases (decide (((wOf d'.natAbs).length:Int)=1)=true) _ (fun hl=> ?_) (fun hl=> ?_)
  obtain⟨y,hy⟩: ∃y,(wOf d'.natAbs)[(0:Int).toNat]? =some y:=⟨_,List.getElem?_eq_getElem (by have:=of_decide_eq_true hl;show 0<_;omega)⟩
  refine Zaf hl ?_
  refine Zik rfl rfl rfl hl (fun _=>rfl) rfl rfl rfl ?_
  refine Zih rfl rfl rfl hl (fun _=>rfl) (Int.le_refl 0) hy rfl rfl ?_
  iterate 2 refine Zaf hl ?_
  refine Zbb hl ?_
  refine ZaX ?_
  refine And.intro (fun h=> ?_) (fun _=> ?_)
  ·have e:=ZqJ n' (Zpi (of_decide_eq_true hl) hy (of_decide_eq_true h)) hd
   refine And.intro rfl ?_
   refine And.intro rfl ?_
   refine And.intro rfl ?_
   refine And.intro rfl ?_
   rw[e]
   rfl
  rotate_left 1
  have hl:decide (((wOf d'.natAbs).length:Int)=1)=false:=by simpa using hl
  iterate 5 refine ZaH hl ?_
  refine ZaS hl ?_
  refine ZaX ?_
  refine brF rfl ?_
  all_goals
   clear hl
   refine And.intro rfl ?_
   refine And.intro rfl ?_
   refine hG.mono ?_
   rintro _ rfl
   refine And.intro rfl ?_
   refine ZlU (ZAo (decide (n'<0)) n' d' g ZyG) rfl ?_
   first|refine Zay (ZaD rfl ?_)|refine Zay (Zay (ZaD rfl ?_))
   refine Zah ?_
   refine Zcq rfl (fun _=>rfl) rfl rfl rfl ?_
   iterate 3 refine Zah ?_
   refine @Classical.byCases (decide (((wOf g.natAbs).length:Int)=1)=true) _ (fun hl=> ?_) (fun hl=> ?_)
   obtain⟨y,hy⟩: ∃y,(wOf g.natAbs)[(0:Int).toNat]? =some y:=⟨_,List.getElem?_eq_getElem (by have:=of_decide_eq_true hl;show 0<_;omega)⟩
   refine Zaf hl ?_
   refine Zik rfl rfl rfl hl (fun _=>rfl) rfl rfl rfl ?_
   refine Zih rfl rfl rfl hl (fun _=>rfl) (Int.le_refl 0) hy rfl rfl ?_
   iterate 2 refine Zaf hl ?_
   refine Zbb hl ?_
   refine ZaX ?_
   refine And.intro (fun h=> ?_) (fun _=> ?_)
   ·have e:=hone (Zpi (of_decide_eq_true hl) hy (of_decide_eq_true h)) hd
    refine And.intro rfl ?_
    refine And.intro rfl ?_
    refine And.intro rfl ?_
    refine And.intro rfl ?_
    rw[e]
    rfl
   rotate_left 1
   have hl:decide (((wOf g.natAbs).length:Int)=1)=false:=by simpa using hl
   iterate 5 refine ZaH hl ?_
   refine ZaS hl ?_
   refine ZaX ?_
   refine brF rfl ?_
   all_goals
    clear hl
    refine And.intro rfl ?_
    refine And.intro rfl ?_
    refine ZlU (ZAo false n' d' g ZyG) rfl ?_
    refine And.intro rfl ?_
    refine And.intro rfl ?_
    refine hA.mono ?_
    rintro _ rfl
    refine And.intro rfl ?_
    refine ZlU (ZAo (decide (A<0)) A d' g ZyG) rfl ?_
    refine And.intro rfl ?_
    refine And.intro rfl ?_
    refine hB.mono ?_
    rintro _ rfl
    refine And.intro rfl ?_
    refine ZlU (ZAo (decide (A<0)) A B g ZyG) rfl ?_
    first|refine Zay (ZaD rfl ?_)|refine Zay (Zay (ZaD rfl ?_))
    iterate 2 refine Zah ?_
    obtain⟨m,hm⟩: ∃m,decide (n'<0)=m:=⟨_,rfl⟩
    rw[hm]at s1
    cases m with
    |true=>
     refine Zaf hm ?_
     refine Zik rfl rfl rfl hm (fun _=>rfl) rfl rfl rfl ?_
     iterate 2 refine Zaf hm ?_
     refine Zbb hm ?_
     refine Zah ?_
     refine Zaj rfl (And.intro rfl ?_)
     refine And.intro rfl ?_
     refine And.intro rfl ?_
     refine And.intro rfl ?_
     refine And.intro rfl ?_
     show SV.agg [.v .b (decide ((0:Int)<((wOf A.natAbs).length:Int))),Za1 (wOf A.natAbs), .v .b (decide (B<0)),Za1 (wOf B.natAbs)]=QS _ _
     simp only at s1
     rw[s2]at s1
     rw[q1,q2,s2,s1]
    |false=>
     iterate 4 refine ZaH hm ?_
     refine ZaS hm ?_
     refine Zah ?_
     refine Zaj rfl (And.intro rfl ?_)
     refine And.intro rfl ?_
     refine And.intro rfl ?_
     refine And.intro rfl ?_
     refine And.intro rfl ?_
     show SV.agg [.v .b false,Za1 (wOf A.natAbs), .v .b (decide (B<0)),Za1 (wOf B.natAbs)]=QS _ _
     simp only at s1
     rw[q1,q2,s2]
     show SV.agg [.v .b false,Za1 (wOf (n'/g).natAbs), .v .b (decide (B<0)),Za1 (wOf B.natAbs)]=SV.agg [.v .b (decide (n'/g<0)),Za1 (wOf (n'/g).natAbs), .v .b (decide (B<0)),Za1 (wOf B.natAbs)]
     rw[←s1]
end Go.Proofs.YtdnodlkdndfplaaGreatDoor
