/-
 Rational numbers as texts, in plain Lean.
-/
import Derived.Test.YtdnodlkdndfplaaGreatDoorT17
set_option linter.constructorNameAsVariable false
set_option linter.unusedSimpArgs false
set_option linter.unusedVariables false
namespace Dv
open Go Go.Lib
theorem ZiF: ∀ {s:List UInt8},Dg s→ ∀i,ZbH s 47 i= -1
 | [],_,_=>rfl
 |b::l,h,i=>by
  have hb:=(h b List.mem_cons_self).1
  have hf:Nat.beq b.toNat (47:UInt8).toNat=false:=by
   cases hx:Nat.beq b.toNat (47:UInt8).toNat with
   |false=>rfl
   |true=>rw[Nat.eq_of_beq_eq_true hx]at hb;exact absurd hb (by decide)
  rw[ZbH,hf]
  exact ZiF (fun c hc=>h c (List.mem_cons_of_mem _ hc)) _
theorem ZkJ: ∀ {s:List UInt8},Dg s→ ∀ (t:List UInt8) (i:Nat),ZbH (s++47::t) 47 i=((i+s.length:Nat):Int)
 | [],_,t,i=>by
  rw[List.nil_append,ZbH]
  rfl
 |b::l,h,t,i=>by
  have hb:=(h b List.mem_cons_self).1
  have hf:Nat.beq b.toNat (47:UInt8).toNat=false:=by
   cases hx:Nat.beq b.toNat (47:UInt8).toNat with
   |false=>rfl
   |true=>rw[Nat.eq_of_beq_eq_true hx]at hb;exact absurd hb (by decide)
  rw[List.cons_append,ZbH,hf]
  simp only
  rw[ZkJ (fun c hc=>h c (List.mem_cons_of_mem _ hc)) t (i+1),List.length_cons]
  congr 1
  omega
theorem Zgq: ∀ (s:List UInt8) (c:UInt8) (i:Nat),0≤ZbH s c i→ ∃k:Nat,ZbH s c i=((i+k:Nat):Int)∧s=s.take k++c::s.drop (k+1)
 | [],_,_,h=>by rw[ZbH]at h;omega
 |b::l,c,i,h=>by
  rw[ZbH]at h⊢
  cases hb:Nat.beq b.toNat c.toNat with
  |true=>
   have hbc:b=c:=UInt8.toNat_inj.1 (Nat.eq_of_beq_eq_true hb)
   subst hbc
   exact⟨0,rfl,rfl⟩
  |false=>
   rw[hb]at h
   obtain⟨k,h1,h2⟩:=Zgq l c (i+1) h
   refine⟨k+1, ?_, ?_⟩
   ·simp only
    rw[h1]
    congr 1
    omega
   ·rw[List.take_succ_cons,List.drop_succ_cons,List.cons_append,←h2]
theorem ZfZ {s:List UInt8} (h:ZbH s 47 0= -1):Zc0 s 47=(s,[],false):=by
 rw[Zc0,h]
 rfl
theorem Zga {s:List UInt8} {k:Nat} (h:ZbH s 47 0=(k:Int)):Zc0 s 47=(s.take k,s.drop (k+1),true):=by
 rw[Zc0,h,decide_eq_true (Int.natCast_nonneg k),Int.toNat_natCast]
theorem Zru {s:List UInt8} (h:(Zc0 s 47).2.2=true):s=(Zc0 s 47).1++47::(Zc0 s 47).2.1:=by
 cases hd:decide (0≤ZbH s 47 0)with
 |true=>
  obtain⟨k,h1,h2⟩:=Zgq s 47 0 (of_decide_eq_true hd)
  rw[Nat.zero_add]at h1
  rw[Zga h1]
  exact h2
 |false=>
  unfold Zc0 at h
  rw[hd]at h
  cases h
theorem Zi1 {s:List UInt8} (h:(Zc0 s 47).2.2=false):Zc0 s 47=(s,[],false):=by
 unfold Zc0 at h⊢
 cases hd:decide (0≤ZbH s 47 0)with
 |true=>rw[hd]at h;cases h
 |false=>rfl
def mns (m:Bool) (s:List UInt8):List UInt8:=match m with
 |true=>45::s
 |false=>s
def Zbu (d:Nat):List UInt8:=match decide (d=1)with
 |true=> []
 |false=>47::decDigits d
def Zbv (q:Rat):List UInt8:=mns (decide (q.num<0)) (decDigits q.num.natAbs++Zbu q.den)
def Zhr (q:Rat):Bool:=Nat.ble (decDigits q.num.natAbs).length 2000&&Nat.ble (decDigits q.den).length 2000
def Zx0 (q:Rat):List UInt8×Int:=match Zhr q with
 |true=>(Zbv q,0)
 |false=>([],2)
def ZkC (a:List UInt8):Bool:=a.head? ==some 45
def Zfx (a:List UInt8):List UInt8:=match ZkC a with
 |true=>a.drop 1
 |false=>a
def Zfp (a:List UInt8):List UInt8:=(Zc0 (Zfx a) 47).1
def Zlt (a:List UInt8):List UInt8:=(Zc0 (Zfx a) 47).2.1
def rIs (a:List UInt8):Bool:=(Zc0 (Zfx a) 47).2.2
def rE1 (a:List UInt8):Int:=ZaB (Zfp a)
def rE2 (a:List UInt8):Int:=match rIs a with
 |true=>ZaB (Zlt a)
 |false=>0
def Zwe (a:List UInt8):Bool:=rIs a&&(decide (dec (Zlt a)=0)||(decide (dec (Zlt a)=1)|| !decide (Nat.gcd (dec (Zfp a)) (dec (Zlt a))=1)))
def ZbG (a:List UInt8):Int:=match decide (rE1 a=5)||(decide (rE2 a=5)||(Zfp a==[48]&&ZkC a))with
 |true=>5
 |false=>match decide (rE1 a=0)&&decide (rE2 a=0)with
  |false=>2
  |true=>match Zwe a with
   |true=>3
   |false=>0
theorem Zov {m:Bool} {s:List UInt8} (h:s.head?≠some 45):ZkC (mns m s)=m:=by
 cases m with
 |true=>rfl
 |false=>simpa[ZkC,mns]using h
theorem ZtO {m:Bool} {s:List UInt8} (h:s.head?≠some 45):Zfx (mns m s)=s:=by
 rw[Zfx,Zov h]
 cases m<;>rfl
theorem ZkK (a:List UInt8):mns (ZkC a) (Zfx a)=a:=by
 rw[Zfx]
 cases h:ZkC a with
 |false=>rfl
 |true=>
  cases a with
  |nil=>cases h
  |cons b l=>
   have:b=45:=by simpa[ZkC]using h
   subst this
   rfl
theorem ZwF {s t:List UInt8} (h:Dg s) (hs:s≠ []):(s++t).head?≠some 45:=by
 cases s with
 |nil=>exact absurd rfl hs
 |cons b l=>
  intro he
  have hb:=(h b List.mem_cons_self).1
  have:b=45:=by simpa using he
  subst this
  exact absurd hb (by decide)
theorem Zip (n d:Nat):(decDigits n++Zbu d).head?≠some 45:=ZwF (ZaN n) (Zea n)
theorem ZfB (n d:Nat):Zc0 (decDigits n++Zbu d) 47=match decide (d=1)with
 |true=>(decDigits n,[],false)
 |false=>(decDigits n,decDigits d,true):=by
 unfold Zbu
 cases decide (d=1)with
 |true=>
  simp only[List.append_nil]
  exact ZfZ (ZiF (ZaN n) 0)
 |false=>
  simp only
  have h:=ZkJ (ZaN n) (decDigits d) 0
  rw[Nat.zero_add]at h
  rw[Zga h,List.take_left',List.drop_append]
  ·simp
  ·rfl
theorem Zfn (q:Rat):Zfx (Zbv q)=decDigits q.num.natAbs++Zbu q.den:=ZtO (Zip _ _)
theorem ZhQ (q:Rat):ZkC (Zbv q)=decide (q.num<0):=Zov (Zip _ _)
theorem ZlD (q:Rat):Zfp (Zbv q)=decDigits q.num.natAbs:=by
 rw[Zfp,Zfn,ZfB]
 cases decide (q.den=1)<;>rfl
theorem Zpj (q:Rat):rIs (Zbv q)= !decide (q.den=1):=by
 rw[rIs,Zfn,ZfB]
 cases decide (q.den=1)<;>rfl
theorem Zls (q:Rat):Zlt (Zbv q)=match decide (q.den=1)with|true=> []|false=>decDigits q.den:=by
 rw[Zlt,Zfn,ZfB]
 cases decide (q.den=1)<;>rfl
theorem Zeu {q:Rat}:Zhr q=true↔(decDigits q.num.natAbs).length≤2000∧(decDigits q.den).length≤2000:=by
 rw[Zhr,Bool.and_eq_true,Nat.ble_eq,Nat.ble_eq]
theorem Ztp {s:List UInt8} (hs:Cn s):dec s=0↔s=[48]:=by
 constructor
 ·intro h
  have:=hs.eq
  rw[h,decDigits_one (by decide)]at this
  exact this.symm
 ·rintro rfl;rfl
theorem ZvQ {s:List UInt8} (hs:Cn s):dec s=1↔s=[49]:=by
 constructor
 ·intro h
  have:=hs.eq
  rw[h,decDigits_one (by decide)]at this
  exact this.symm
 ·rintro rfl;rfl
theorem Zna {a:List UInt8} (h:ZbG a=0): ∃q:Rat,a=Zbv q∧Zhr q=true:=by
 unfold ZbG at h
 cases h1:decide (rE1 a=5)||(decide (rE2 a=5)||(Zfp a==[48]&&ZkC a))with
 |true=>rw[h1]at h;cases h
 |false=>
 cases h2:decide (rE1 a=0)&&decide (rE2 a=0)with
 |false=>rw[h1,h2]at h;cases h
 |true=>
 cases h3:Zwe a with
 |true=>rw[h1,h2,h3]at h;cases h
 |false=>
 rw[Bool.or_eq_false_iff,Bool.or_eq_false_iff]at h1
 rw[Bool.and_eq_true,decide_eq_true_eq,decide_eq_true_eq]at h2
 obtain⟨c1,l1⟩:=Za2 h2.1
 have hs:ZkC a=true→dec (Zfp a)≠0:=fun hn h0=>by
  have:=h1.2.2
  rw[hn,(Ztp c1).1 h0]at this
  cases this
 have hd: ∃d:Nat,Zfx a=decDigits (dec (Zfp a))++Zbu d∧d≠0∧Nat.gcd (dec (Zfp a)) d=1∧(decDigits d).length≤2000:=by
  cases hi:rIs a with
  |true=>
   have e2:=h2.2
   rw[rE2,hi]at e2
   obtain⟨c2,l2⟩:=Za2 e2
   rw[Zwe,hi,Bool.true_and,Bool.or_eq_false_iff,Bool.or_eq_false_iff,Bool.not_eq_false',decide_eq_false_iff_not,decide_eq_false_iff_not,decide_eq_true_eq]at h3
   refine⟨dec (Zlt a), ?_,h3.1,h3.2.2,by rw[c2.eq];exact l2⟩
   rw[Zbu,decide_eq_false h3.2.1,c1.eq,c2.eq]
   exact Zru hi
  |false=>
   refine⟨1, ?_,by decide,Nat.gcd_one_right _,by rw[decDigits_one (by decide)];decide⟩
   have e:=Zi1 hi
   have e1:Zfp a=Zfx a:=by rw[Zfp,e]
   rw[c1.eq,e1]
   simp[Zbu]
 obtain⟨d,hd1,hd2,hd3,hd4⟩:=hd
 cases hn:ZkC a with
 |true=>
  refine⟨⟨-(dec (Zfp a):Int),d,hd2,by show Nat.gcd (-(dec (Zfp a):Int)).natAbs d=1;rw[Int.natAbs_neg,Int.natAbs_natCast];exact hd3⟩, ?_, ?_⟩
  ·have h0:=hs hn
   refine(ZkK a).symm.trans ?_
   rw[hn,hd1,Zbv]
   show mns true _=mns (decide (-(dec (Zfp a):Int)<0)) (decDigits (-(dec (Zfp a):Int)).natAbs++Zbu d)
   rw[Int.natAbs_neg,Int.natAbs_natCast,decide_eq_true (by omega: -(dec (Zfp a):Int)<0)]
  ·refine Zeu.2 ⟨?_,hd4⟩
   show(decDigits (-(dec (Zfp a):Int)).natAbs).length≤2000
   rw[Int.natAbs_neg,Int.natAbs_natCast,c1.eq]
   exact l1
 |false=>
  refine⟨⟨(dec (Zfp a):Int),d,hd2,by show Nat.gcd (dec (Zfp a):Int).natAbs d=1;rw[Int.natAbs_natCast];exact hd3⟩, ?_, ?_⟩
  ·refine(ZkK a).symm.trans ?_
   rw[hn,hd1,Zbv]
   show mns false _=mns (decide ((dec (Zfp a):Int)<0)) (decDigits (dec (Zfp a):Int).natAbs++Zbu d)
   rw[Int.natAbs_natCast,decide_eq_false (by omega: ¬ (dec (Zfp a):Int)<0)]
  ·refine Zeu.2 ⟨?_,hd4⟩
   show(decDigits (dec (Zfp a):Int).natAbs).length≤2000
   rw[Int.natAbs_natCast,c1.eq]
   exact l1
theorem ZuK {p q:Rat} (h:Zbv p=Zbv q):p=q:=by
 have h1:=ZlD p
 rw[h,ZlD]at h1
 have h2:=ZhQ p
 rw[h,ZhQ]at h2
 have h3:=Zls p
 rw[h,Zls]at h3
 have h4:=Zpj p
 rw[h,Zpj]at h4
 have e1:q.num.natAbs=p.num.natAbs:=by rw[←Zat q.num.natAbs,h1,Zat]
 refine Rat.ext ?_ ?_
 ·have:=decide_eq_decide.1 h2
  omega
 ·cases hp:decide (p.den=1)with
  |true=>
   rw[hp]at h4
   have:q.den=1:=by simpa using h4
   rw[of_decide_eq_true hp,this]
  |false=>
   have hq:decide (q.den=1)=false:=by rw[hp]at h4;simpa using h4
   rw[hp,hq]at h3
   simp only at h3
   rw[←Zat p.den,←h3,Zat]
theorem ZxE {q:Rat} (h:Zhr q=true):(Zbv q).length≤4002:=by
 obtain⟨h1,h2⟩:=Zeu.1 h
 have hf:(Zbu q.den).length≤2001:=by
  unfold Zbu
  cases decide (q.den=1)with
  |true=>simp
  |false=>simp only[List.length_cons];omega
 have hm: ∀ (m:Bool) (s:List UInt8),(mns m s).length≤s.length+1:=fun m s=>by cases m<;>simp[mns]
 have:=hm (decide (q.num<0)) (decDigits q.num.natAbs++Zbu q.den)
 rw[List.length_append]at this
 rw[Zbv]
 omega
theorem ZAv {s:List UInt8} (h:Cn s):(s==[48])=decide (dec s=0):=by
 rw[Bool.eq_iff_iff,beq_iff_eq,decide_eq_true_eq,Ztp h]
theorem Zya {s:List UInt8} (h:Cn s):(s==[49])=decide (dec s=1):=by
 rw[Bool.eq_iff_iff,beq_iff_eq,decide_eq_true_eq,ZvQ h]
theorem ZrD (s:List UInt8) (c:UInt8):(Zc0 s c).1.length≤s.length∧(Zc0 s c).2.1.length≤s.length:=by
 unfold Zc0
 cases decide (0≤ZbH s c 0)with
 |true=>simp only[List.length_take,List.length_drop];omega
 |false=>simp
theorem ZrW (a:List UInt8):(Zfx a).length≤a.length∧decide (((Zfx a).length:Int)<(a.length:Int))=ZkC a:=by
 have h:=congrArg List.length (ZkK a)
 cases hn:ZkC a with
 |true=>
  rw[hn]at h
  simp only[mns,List.length_cons]at h
  exact⟨by omega,decide_eq_true (by omega)⟩
 |false=>
  rw[hn]at h
  simp only[mns]at h
  exact⟨by omega,decide_eq_false (by omega)⟩
def ZgD (E1 E2:Int) (z m bad:Bool):Int:=match decide (E1=5)||(decide (E2=5)||(z&&m))with
 |true=>5
 |false=>match decide (E1=0)&&decide (E2=0)with
  |false=>2
  |true=>match bad with
   |true=>3
   |false=>0
theorem ZgL (a:List UInt8):ZbG a=ZgD (ZaB (Zfp a)) (rE2 a) (Zfp a==[48]) (ZkC a) (Zwe a):=rfl
def Ze5:List (List UInt8)→Int
 | []=>0
 |a::l=>match decide (ZbG a=0)with
  |true=>Ze5 l
  |false=>ZbG a
theorem Zjh: ∀ {l:List (List UInt8)},Ze5 l=0→ ∀a∈l,ZbG a=0
 | [],_,_,h=>absurd h List.not_mem_nil
 |b::l,h,a,ha=>by
  rw[Ze5]at h
  cases hb:decide (ZbG b=0)with
  |true=>
   rw[hb]at h
   rcases List.mem_cons.1 ha with rfl|ha
   ·exact of_decide_eq_true hb
   ·exact Zjh h a ha
  |false=>rw[hb]at h;exact absurd h (of_decide_eq_false hb)
theorem ZxJ (m:Bool) (n d:Nat):Zc0 (mns m (decDigits n++Zbu d)) 47=match decide (d=1)with
 |true=>(mns m (decDigits n),[],false)
 |false=>(mns m (decDigits n),decDigits d,true):=by
 cases m with
 |false=>exact ZfB n d
 |true=>
  have e:ZbH (mns true (decDigits n++Zbu d)) 47 0=ZbH (decDigits n++Zbu d) 47 1:=rfl
  cases hd:decide (d=1)with
  |true=>
   have hf:Zbu d=[]:=by rw[Zbu,hd]
   rw[hf,List.append_nil]at e⊢
   rw[ZiF (ZaN n)]at e
   exact ZfZ e
  |false=>
   have hf:Zbu d=47::decDigits d:=by rw[Zbu,hd]
   rw[hf]at e⊢
   rw[ZkJ (ZaN n)]at e
   rw[Zga e,mns,Nat.add_comm,List.take_succ_cons,List.take_left',List.drop_succ_cons,List.drop_append]
   ·simp[mns]
   ·rfl
theorem Zof: ∀ (k n:Nat),(Zup k n).length≤k
 |0,_=>Nat.le_refl 0
 |k+1,n=>by
  rw[Zup]
  cases Nat.ble 10 n with
  |true=>
   have:=Zof k (n/10)
   simp only[List.length_append,List.length_singleton]
   omega
  |false=>simp
theorem Zmx (m:Bool) (l:List Int):(ZcV m l).length≤2101:=by
 unfold ZcV
 cases l.isEmpty with
 |true=>simp
 |false=>
  simp only
  cases Nat.ble l.length 210 with
  |true=>
   have:=Zof 2100 (wv l).toNat
   cases m<;>simp only[List.length_append,List.length_cons,List.length_nil]<;>omega
  |false=>simp
theorem Zn7 (v:Int):Zcq (wOf v.natAbs)=Nat.ble (decDigits v.natAbs).length 2000∧(Nat.ble (decDigits v.natAbs).length 2000=true→ZcV (decide (v<0)) (wOf v.natAbs)=mns (decide (v<0)) (decDigits v.natAbs)):=by
 obtain⟨h1,h2⟩:=Zth v.natAbs
 refine⟨h1,fun hb=> ?_⟩
 rw[h2 hb]
 by_cases h:v<0
 ·rw[decide_eq_true h,decide_eq_false (by omega: ¬v.natAbs=0)]
  rfl
 ·rw[decide_eq_false h]
  cases decide (v.natAbs=0)<;>rfl
theorem Zh1:Zbv 0=[48]:=by
 rw[Zbv,Rat.zero_num,Rat.zero_den]
 show mns false (decDigits 0++Zbu 1)=[48]
 rw[decDigits_one (by decide)]
 rfl
theorem Zpu {q:Rat} (h:Zhr q=true):Zx0 q=(Zbv q,0):=by rw[Zx0,h]
theorem Zml (q:Rat):(Zbv q==[48])=decide (q=0):=by
 rw[Bool.eq_iff_iff,beq_iff_eq,decide_eq_true_eq,←Zh1]
 exact⟨ZuK,fun h=>by rw[h]⟩
end Dv
/-
 large.Ratio: a fraction in lowest terms.
-/
namespace Go.Proofs.YtdnodlkdndfplaaGreatDoor
open Go.Am Go.Tx Dv Go.Lib
set_option maxRecDepth 100000
abbrev QR (q:Rat):SV:=QS q.num (q.den:Int)
theorem Zop {n:Nat} (h:((wOf n).length:Int)=1) {x:Int} (hx:(wOf n)[(0:Int).toNat]? =some x) (h1:x=1):n=1:=by
 have hv:=ZbT n
 obtain⟨w,hw⟩: ∃w,wOf n=w:=⟨_,rfl⟩
 rw[hw]at h hx hv
 match w,h,hx,hv with
 | [y],_,hx,hv=>
  have hy:y=x:=by simpa using hx
  rw[hy,h1]at hv
  simp only[wv]at hv
  omega
 | [],h,_,_=>simp at h
 |_::_::_,h,_,_=>simp only[List.length_cons]at h;omega
theorem Zdk {n d:Int} (hd:0<d):(Rat.divInt n d).num=n/(Int.gcd n d:Int)∧((Rat.divInt n d).den:Int)=d/(Int.gcd n d:Int):=by
 rw[Rat.num_divInt,Rat.den_divInt,Int.sign_eq_one_of_pos hd,if_neg (by omega),Int.one_mul,Int.gcd_comm d n,Int.natCast_ediv,Int.natAbs_of_nonneg (by omega)]
 exact⟨rfl,rfl⟩
theorem Zqv (n:Int) {d:Int} (h:d.natAbs=1) (hd:0<d):QR (Rat.divInt n d)=QS n d:=by
 have:d=1:=by omega
 subst this
 obtain⟨h1,h2⟩:=Zdk (n:=n) (d:=1) (by decide)
 rw[Int.gcd_one,Int.natCast_one,Int.ediv_one]at h1 h2
 show QS _ _=_
 rw[h1,h2]
theorem Zp4 (n:Int) {d:Int} (h:(Int.gcd n d:Int).natAbs=1) (hd:0<d):QR (Rat.divInt n d)=QS n d:=by
 obtain⟨h1,h2⟩:=Zdk (n:=n) hd
 have hg:(Int.gcd n d:Int)=1:=by omega
 rw[hg,Int.ediv_one]at h1 h2
 show QS _ _=_
 rw[h1,h2]
theorem Ztt {n g:Int} (hg:0<g) (hdv:g∣n):(match decide (n<0)with|true=>decide ((0:Int)<((wOf ((n.natAbs:Int)/g).natAbs).length:Int))|false=>false)=decide (n/g<0)∧((n.natAbs:Int)/g).natAbs=(n/g).natAbs:=by
 obtain⟨k,rfl⟩:=hdv
 rw[Int.mul_ediv_cancel_left _ (by omega),Int.natAbs_mul,Int.natCast_mul,Int.natAbs_of_nonneg (by omega),Int.mul_ediv_cancel_left _ (by omega),Int.natAbs_natCast]
 refine⟨?_,rfl⟩
 by_cases hk:k<0
 ·rw[decide_eq_true (Int.mul_neg_of_pos_of_neg hg hk),decide_eq_true hk]
  refine decide_eq_true ?_
  have:wOf k.natAbs≠ []:=by rw[ne_eq,Zec];omega
  have:=List.length_pos_iff.2 this
  omega
 ·rw[decide_eq_false (by have:=Int.mul_nonneg (a:=g) (b:=k) (by omega) (by omega);omega),decide_eq_false hk]
def ZAu (m:Bool) (n d:Int) (z:List SV):List SM:=[.cell [.v .b m,Za0 (wOf n.natAbs)] true, .cell [.v .b (decide (d<0)),Za0 (wOf d.natAbs)] true, .cell z true]
def ZzA (m:Bool) (n d g:Int) (z:List SV):List SM:=[.cell [.v .b m,Za0 (wOf n.natAbs)] true, .cell [.v .b (decide (d<0)),Za0 (wOf d.natAbs)] true, .cell z true, .cell [.v .b (decide (g<0)),Za0 (wOf g.natAbs)] true]
def Zx1:List SV:=[.v .b false, .nils, .v .b false, .nils]
set_option maxHeartbeats 8000000 in
theorem ZnH (n d:Int) (hd0:d≠0) (hln:ln n≤700000000) (hld:ln d≤700000000):PureOK Tryz.prog Zaw 102 [IS n,IS d] (fun V=>V=QR (Rat.divInt n d)):=by
 refine Zak Zal Tryz.func102 ?_
 refine And.intro rfl ?_
 refine And.intro (fun h=> ?_) (fun h=> ?_)
 have hneg:d<0:=of_decide_eq_true h
 obtain⟨n',hn'⟩: ∃n',-n=n':=⟨_,rfl⟩
 obtain⟨d',hd'⟩: ∃d',-d=d':=⟨_,rfl⟩
 have hN:=ZuW n (by omega)
 have hD:=ZuW d (by omega)
 rw[hn']at hN
 rw[hd']at hD
 have hq:Rat.divInt n d=Rat.divInt n' d':=by rw[←hn',←hd',Rat.neg_divInt_neg]
 have hd:0<d':=by omega
 have hln':ln n'≤700000000:=by rw[←hn',Zob];exact hln
 have hld':ln d'≤700000000:=by rw[←hd',Zob];exact hld
 refine And.intro rfl ?_
 refine hN.mono ?_
 rintro _ rfl
 refine And.intro rfl ?_
 refine hD.mono ?_
 rintro _ rfl
 refine And.intro rfl ?_
 refine And.intro rfl ?_
 refine Zl3 (ZAu (decide (n'<0)) n' d' Zx1) rfl ?_
 rotate_left 1
 obtain⟨n',hn'⟩: ∃n',n'=n:=⟨_,rfl⟩
 obtain⟨d',hd'⟩: ∃d',d'=d:=⟨_,rfl⟩
 have hq:Rat.divInt n d=Rat.divInt n' d':=by rw[hn',hd']
 have hd:0<d':=by
  have:=of_decide_eq_false h
  omega
 have hln':ln n'≤700000000:=by rw[hn'];exact hln
 have hld':ln d'≤700000000:=by rw[hd'];exact hld
 subst hn' hd'
 refine Zl3 (ZAu (decide (n'<0)) n' d' Zx1) rfl ?_
 all_goals
  rw[hq]
  have hG:=Zzk n' d' hln' hld'
  obtain⟨g,hg⟩: ∃g:Int,(Int.gcd n' d':Int)=g:=⟨_,rfl⟩
  have hg0:0<g:=by
   have:0<Int.gcd n' d':=Int.gcd_pos_of_ne_zero_right _ (by omega)
   omega
  have hlg:ln g≤700000000:=by
   refine Nat.le_trans (Zfj (b:=d') ?_) hld'
   have:Int.gcd n' d'∣d'.natAbs:=Int.gcd_dvd_natAbs_right _ _
   have:=Nat.le_of_dvd (by omega) this
   omega
  have hdn:g∣n':=by rw[←hg];exact Int.gcd_dvd_left _ _
  obtain⟨q1,q2⟩:=Zdk (n:=n') hd
  have hone:=Zp4 n' (d:=d')
  rw[hg]at hG q1 q2 hone
  have hA:=Zn2 (n'.natAbs:Int) g hg0 (by rw[ln,Int.natAbs_natCast];exact hln') hlg
  rw[Zo5]at hA
  have hB:=Zn2 d' g hg0 hld' hlg
  obtain⟨s1,s2⟩:=Ztt (n:=n') hg0 hdn
  obtain⟨A,eA⟩: ∃A,(n'.natAbs:Int)/g=A:=⟨_,rfl⟩
  obtain⟨Ar,eAr⟩: ∃A,(n'.natAbs:Int) % g=A:=⟨_,rfl⟩
  obtain⟨B,eB⟩: ∃A,d'/g=A:=⟨_,rfl⟩
  obtain⟨Br,eBr⟩: ∃A,d' % g=A:=⟨_,rfl⟩
  rw[eA,eAr]at hA
  rw[eB,eBr]at hB
  rw[eA]at s1 s2
  rw[eB]at q2
  first|refine Zab (Zaa rfl ?_)|refine Zab (Zab (Zaa rfl ?_))
  refine Zaf rfl (fun _=>rfl) rfl rfl ?_
  refine Zu0 rfl (fun _=>rfl) rfl rfl rfl ?_
  iterate 3 refine Zaf rfl (fun _=>rfl) rfl rfl ?_
  refine @Classical.byCases (decide (((wOf d'.natAbs).length:Int)=1)=true) _ (fun hl=> ?_) (fun hl=> ?_)
  obtain⟨y,hy⟩: ∃y,(wOf d'.natAbs)[(0:Int).toNat]? =some y:=⟨_,List.getElem?_eq_getElem (by have:=of_decide_eq_true hl;show 0<_;omega)⟩
  refine Zaj rfl rfl rfl hl (fun _=>rfl) rfl rfl ?_
  refine ZiG rfl rfl rfl hl (fun _=>rfl) rfl rfl rfl ?_
  refine Zf0 rfl rfl rfl hl (fun _=>rfl) (Int.le_refl 0) hy rfl rfl ?_
  iterate 2 refine Zaj rfl rfl rfl hl (fun _=>rfl) rfl rfl ?_
  refine ZaJ rfl rfl rfl hl rfl rfl rfl ?_
  refine Zah ?_
  refine And.intro (fun h=> ?_) (fun _=> ?_)
  ·have e:=Zqv n' (Zop (of_decide_eq_true hl) hy (of_decide_eq_true h)) hd
   refine And.intro rfl ?_
   refine And.intro rfl ?_
   refine And.intro rfl ?_
   refine And.intro rfl ?_
   rw[e]
   rfl
  rotate_left 1
  have hl:decide (((wOf d'.natAbs).length:Int)=1)=false:=by simpa using hl
  iterate 5 refine Zai rfl rfl rfl hl rfl rfl ?_
  refine ZaC rfl rfl rfl hl rfl rfl rfl ?_
  refine Zah ?_
  refine And.intro (fun h=>nomatch h) (fun _=> ?_)
  all_goals
   clear hl
   refine And.intro rfl ?_
   refine And.intro rfl ?_
   refine hG.mono ?_
   rintro _ rfl
   refine And.intro rfl ?_
   refine Zl3 (ZzA (decide (n'<0)) n' d' g Zx1) rfl ?_
   first|refine Zab (Zaa rfl ?_)|refine Zab (Zab (Zaa rfl ?_))
   refine Zaf rfl (fun _=>rfl) rfl rfl ?_
   refine Zu0 rfl (fun _=>rfl) rfl rfl rfl ?_
   iterate 3 refine Zaf rfl (fun _=>rfl) rfl rfl ?_
   refine @Classical.byCases (decide (((wOf g.natAbs).length:Int)=1)=true) _ (fun hl=> ?_) (fun hl=> ?_)
   obtain⟨y,hy⟩: ∃y,(wOf g.natAbs)[(0:Int).toNat]? =some y:=⟨_,List.getElem?_eq_getElem (by have:=of_decide_eq_true hl;show 0<_;omega)⟩
   refine Zaj rfl rfl rfl hl (fun _=>rfl) rfl rfl ?_
   refine ZiG rfl rfl rfl hl (fun _=>rfl) rfl rfl rfl ?_
   refine Zf0 rfl rfl rfl hl (fun _=>rfl) (Int.le_refl 0) hy rfl rfl ?_
   iterate 2 refine Zaj rfl rfl rfl hl (fun _=>rfl) rfl rfl ?_
   refine ZaJ rfl rfl rfl hl rfl rfl rfl ?_
   refine Zah ?_
   refine And.intro (fun h=> ?_) (fun _=> ?_)
   ·have e:=hone (Zop (of_decide_eq_true hl) hy (of_decide_eq_true h)) hd
    refine And.intro rfl ?_
    refine And.intro rfl ?_
    refine And.intro rfl ?_
    refine And.intro rfl ?_
    rw[e]
    rfl
   rotate_left 1
   have hl:decide (((wOf g.natAbs).length:Int)=1)=false:=by simpa using hl
   iterate 5 refine Zai rfl rfl rfl hl rfl rfl ?_
   refine ZaC rfl rfl rfl hl rfl rfl rfl ?_
   refine Zah ?_
   refine And.intro (fun h=>nomatch h) (fun _=> ?_)
   all_goals
    clear hl
    refine And.intro rfl ?_
    refine And.intro rfl ?_
    refine Zl3 (ZzA false n' d' g Zx1) rfl ?_
    refine And.intro rfl ?_
    refine And.intro rfl ?_
    refine hA.mono ?_
    rintro _ rfl
    refine And.intro rfl ?_
    refine Zl3 (ZzA (decide (A<0)) A d' g Zx1) rfl ?_
    refine And.intro rfl ?_
    refine And.intro rfl ?_
    refine hB.mono ?_
    rintro _ rfl
    refine And.intro rfl ?_
    refine Zl3 (ZzA (decide (A<0)) A B g Zx1) rfl ?_
    first|refine Zab (Zaa rfl ?_)|refine Zab (Zab (Zaa rfl ?_))
    iterate 2 refine Zaf rfl (fun _=>rfl) rfl rfl ?_
    obtain⟨m,hm⟩: ∃m,decide (n'<0)=m:=⟨_,rfl⟩
    rw[hm]at s1
    cases m with
    |true=>
     refine Zaj rfl rfl rfl hm (fun _=>rfl) rfl rfl ?_
     refine ZiG rfl rfl rfl hm (fun _=>rfl) rfl rfl rfl ?_
     iterate 2 refine Zaj rfl rfl rfl hm (fun _=>rfl) rfl rfl ?_
     refine ZaJ rfl rfl rfl hm rfl rfl rfl ?_
     refine Zaf rfl (fun _=>rfl) rfl rfl ?_
     refine Zau rfl (And.intro rfl ?_)
     refine And.intro rfl ?_
     refine And.intro rfl ?_
     refine And.intro rfl ?_
     refine And.intro rfl ?_
     show SV.agg [.v .b (decide ((0:Int)<((wOf A.natAbs).length:Int))),Za0 (wOf A.natAbs), .v .b (decide (B<0)),Za0 (wOf B.natAbs)]=QS _ _
     simp only at s1
     rw[s2]at s1
     rw[q1,q2,s2,s1]
    |false=>
     iterate 4 refine Zai rfl rfl rfl hm rfl rfl ?_
     refine ZaC rfl rfl rfl hm rfl rfl rfl ?_
     refine Zaf rfl (fun _=>rfl) rfl rfl ?_
     refine Zau rfl (And.intro rfl ?_)
     refine And.intro rfl ?_
     refine And.intro rfl ?_
     refine And.intro rfl ?_
     refine And.intro rfl ?_
     show SV.agg [.v .b false,Za0 (wOf A.natAbs), .v .b (decide (B<0)),Za0 (wOf B.natAbs)]=QS _ _
     simp only at s1
     rw[q1,q2,s2]
     show SV.agg [.v .b false,Za0 (wOf (n'/g).natAbs), .v .b (decide (B<0)),Za0 (wOf B.natAbs)]=SV.agg [.v .b (decide (n'/g<0)),Za0 (wOf (n'/g).natAbs), .v .b (decide (B<0)),Za0 (wOf B.natAbs)]
     rw[←s1]
end Go.Proofs.YtdnodlkdndfplaaGreatDoor
