/-
 Rational numbers as texts, in plain Lean.
-/
import Derived.Test.YtdnodlkdndfplaaGreatDoorT17
set_option linter.constructorNameAsVariable false
set_option linter.unusedSimpArgs false
set_option linter.unusedVariables false
namespace Dv
open Go Go.Lib
theorem ZhA: ∀ {s:List UInt8},Dg s→ ∀i,Zbw s 47 i= -1
 | [],_,_=>rfl
 |b::l,h,i=>by
  have hb:=(h b List.mem_cons_self).1
  have hf:Nat.beq b.toNat (47:UInt8).toNat=false:=by
   cases hx:Nat.beq b.toNat (47:UInt8).toNat with
   |false=>rfl
   |true=>rw[Nat.eq_of_beq_eq_true hx]at hb;exact absurd hb (by decide)
  rw[Zbw,hf]
  exact ZhA (fun c hc=>h c (List.mem_cons_of_mem _ hc)) _
theorem ZjP: ∀ {s:List UInt8},Dg s→ ∀ (t:List UInt8) (i:Nat),Zbw (s++47::t) 47 i=((i+s.length:Nat):Int)
 | [],_,t,i=>by
  rw[List.nil_append,Zbw]
  rfl
 |b::l,h,t,i=>by
  have hb:=(h b List.mem_cons_self).1
  have hf:Nat.beq b.toNat (47:UInt8).toNat=false:=by
   cases hx:Nat.beq b.toNat (47:UInt8).toNat with
   |false=>rfl
   |true=>rw[Nat.eq_of_beq_eq_true hx]at hb;exact absurd hb (by decide)
  rw[List.cons_append,Zbw,hf]
  simp only
  rw[ZjP (fun c hc=>h c (List.mem_cons_of_mem _ hc)) t (i+1),List.length_cons]
  congr 1
  omega
theorem ZfY: ∀ (s:List UInt8) (c:UInt8) (i:Nat),0≤Zbw s c i→ ∃k:Nat,Zbw s c i=((i+k:Nat):Int)∧s=s.take k++c::s.drop (k+1)
 | [],_,_,h=>by rw[Zbw]at h;omega
 |b::l,c,i,h=>by
  rw[Zbw]at h⊢
  cases hb:Nat.beq b.toNat c.toNat with
  |true=>
   have hbc:b=c:=UInt8.toNat_inj.1 (Nat.eq_of_beq_eq_true hb)
   subst hbc
   exact⟨0,rfl,rfl⟩
  |false=>
   rw[hb]at h
   obtain⟨k,h1,h2⟩:=ZfY l c (i+1) h
   refine⟨k+1, ?_, ?_⟩
   ·simp only
    rw[h1]
    congr 1
    omega
   ·rw[List.take_succ_cons,List.drop_succ_cons,List.cons_append,←h2]
theorem Zfp {s:List UInt8} (h:Zbw s 47 0= -1):ZcJ s 47=(s,[],false):=by
 rw[ZcJ,h]
 rfl
theorem Zfz {s:List UInt8} {k:Nat} (h:Zbw s 47 0=(k:Int)):ZcJ s 47=(s.take k,s.drop (k+1),true):=by
 rw[ZcJ,h,decide_eq_true (Int.natCast_nonneg k),Int.toNat_natCast]
theorem ZrT {s:List UInt8} (h:(ZcJ s 47).2.2=true):s=(ZcJ s 47).1++47::(ZcJ s 47).2.1:=by
 cases hd:decide (0≤Zbw s 47 0)with
 |true=>
  obtain⟨k,h1,h2⟩:=ZfY s 47 0 (of_decide_eq_true hd)
  rw[Nat.zero_add]at h1
  rw[Zfz h1]
  exact h2
 |false=>
  unfold ZcJ at h
  rw[hd]at h
  cases h
theorem ZiX {s:List UInt8} (h:(ZcJ s 47).2.2=false):ZcJ s 47=(s,[],false):=by
 unfold ZcJ at h⊢
 cases hd:decide (0≤Zbw s 47 0)with
 |true=>rw[hd]at h;cases h
 |false=>rfl
def mns (m:Bool) (s:List UInt8):List UInt8:=match m with
 |true=>45::s
 |false=>s
def Zbk (d:Nat):List UInt8:=match decide (d=1)with
 |true=> []
 |false=>47::decDigits d
def Zbi (q:Rat):List UInt8:=mns (decide (q.num<0)) (decDigits q.num.natAbs++Zbk q.den)
def Zeu (q:Rat):Bool:=Nat.ble (decDigits q.num.natAbs).length 2000&&Nat.ble (decDigits q.den).length 2000
def Zjm (a:List UInt8):Bool:=a.head? ==some 45
def Zfn (a:List UInt8):List UInt8:=match Zjm a with
 |true=>a.drop 1
 |false=>a
def ZfV (a:List UInt8):List UInt8:=(ZcJ (Zfn a) 47).1
def ZlO (a:List UInt8):List UInt8:=(ZcJ (Zfn a) 47).2.1
def rIs (a:List UInt8):Bool:=(ZcJ (Zfn a) 47).2.2
def rE1 (a:List UInt8):Int:=Zaz (ZfV a)
def rE2 (a:List UInt8):Int:=match rIs a with
 |true=>Zaz (ZlO a)
 |false=>0
def Zt9 (a:List UInt8):Bool:=rIs a&&(decide (dec (ZlO a)=0)||(decide (dec (ZlO a)=1)|| !decide (Nat.gcd (dec (ZfV a)) (dec (ZlO a))=1)))
def ZaP (a:List UInt8):Int:=match decide (rE1 a=5)||(decide (rE2 a=5)||(ZfV a==[48]&&Zjm a))with
 |true=>5
 |false=>match decide (rE1 a=0)&&decide (rE2 a=0)with
  |false=>2
  |true=>match Zt9 a with
   |true=>3
   |false=>0
theorem ZnK {m:Bool} {s:List UInt8} (h:s.head?≠some 45):Zjm (mns m s)=m:=by
 cases m with
 |true=>rfl
 |false=>simpa[Zjm,mns]using h
theorem Zs8 {m:Bool} {s:List UInt8} (h:s.head?≠some 45):Zfn (mns m s)=s:=by
 rw[Zfn,ZnK h]
 cases m<;>rfl
theorem Zjz (a:List UInt8):mns (Zjm a) (Zfn a)=a:=by
 rw[Zfn]
 cases h:Zjm a with
 |false=>rfl
 |true=>
  cases a with
  |nil=>cases h
  |cons b l=>
   have:b=45:=by simpa[Zjm]using h
   subst this
   rfl
theorem Zub {s t:List UInt8} (h:Dg s) (hs:s≠ []):(s++t).head?≠some 45:=by
 cases s with
 |nil=>exact absurd rfl hs
 |cons b l=>
  intro he
  have hb:=(h b List.mem_cons_self).1
  have:b=45:=by simpa using he
  subst this
  exact absurd hb (by decide)
theorem Zhu (n d:Nat):(decDigits n++Zbk d).head?≠some 45:=Zub (ZaI n) (Zd2 n)
theorem ZnF (n d:Nat):ZcJ (decDigits n++Zbk d) 47=match decide (d=1)with
 |true=>(decDigits n,[],false)
 |false=>(decDigits n,decDigits d,true):=by
 unfold Zbk
 cases decide (d=1)with
 |true=>
  simp only[List.append_nil]
  exact Zfp (ZhA (ZaI n) 0)
 |false=>
  simp only
  have h:=ZjP (ZaI n) (decDigits d) 0
  rw[Nat.zero_add]at h
  rw[Zfz h,List.take_left',List.drop_append]
  ·simp
  ·rfl
theorem Zq4 (q:Rat):Zfn (Zbi q)=decDigits q.num.natAbs++Zbk q.den:=Zs8 (Zhu _ _)
theorem ZpA (q:Rat):Zjm (Zbi q)=decide (q.num<0):=ZnK (Zhu _ _)
theorem Zei {q:Rat}:Zeu q=true↔(decDigits q.num.natAbs).length≤2000∧(decDigits q.den).length≤2000:=by
 rw[Zeu,Bool.and_eq_true,Nat.ble_eq,Nat.ble_eq]
theorem ZrH {s:List UInt8} (hs:Cn s):dec s=0↔s=[48]:=by
 constructor
 ·intro h
  have:=hs.eq
  rw[h,decDigits_one (by decide)]at this
  exact this.symm
 ·rintro rfl;rfl
theorem ZtL {s:List UInt8} (hs:Cn s):dec s=1↔s=[49]:=by
 constructor
 ·intro h
  have:=hs.eq
  rw[h,decDigits_one (by decide)]at this
  exact this.symm
 ·rintro rfl;rfl
theorem ZhB {a:List UInt8} (h:ZaP a=0): ∃q:Rat,a=Zbi q∧Zeu q=true:=by
 unfold ZaP at h
 cases h1:decide (rE1 a=5)||(decide (rE2 a=5)||(ZfV a==[48]&&Zjm a))with
 |true=>rw[h1]at h;cases h
 |false=>
 cases h2:decide (rE1 a=0)&&decide (rE2 a=0)with
 |false=>rw[h1,h2]at h;cases h
 |true=>
 cases h3:Zt9 a with
 |true=>rw[h1,h2,h3]at h;cases h
 |false=>
 rw[Bool.or_eq_false_iff,Bool.or_eq_false_iff]at h1
 rw[Bool.and_eq_true,decide_eq_true_eq,decide_eq_true_eq]at h2
 obtain⟨c1,l1⟩:=ZaY h2.1
 have hs:Zjm a=true→dec (ZfV a)≠0:=fun hn h0=>by
  have:=h1.2.2
  rw[hn,(ZrH c1).1 h0]at this
  cases this
 have hd: ∃d:Nat,Zfn a=decDigits (dec (ZfV a))++Zbk d∧d≠0∧Nat.gcd (dec (ZfV a)) d=1∧(decDigits d).length≤2000:=by
  cases hi:rIs a with
  |true=>
   have e2:=h2.2
   rw[rE2,hi]at e2
   obtain⟨c2,l2⟩:=ZaY e2
   rw[Zt9,hi,Bool.true_and,Bool.or_eq_false_iff,Bool.or_eq_false_iff,Bool.not_eq_false',decide_eq_false_iff_not,decide_eq_false_iff_not,decide_eq_true_eq]at h3
   refine⟨dec (ZlO a), ?_,h3.1,h3.2.2,by rw[c2.eq];exact l2⟩
   rw[Zbk,decide_eq_false h3.2.1,c1.eq,c2.eq]
   exact ZrT hi
  |false=>
   refine⟨1, ?_,by decide,Nat.gcd_one_right _,by rw[decDigits_one (by decide)];decide⟩
   have e:=ZiX hi
   have e1:ZfV a=Zfn a:=by rw[ZfV,e]
   rw[c1.eq,e1]
   simp[Zbk]
 obtain⟨d,hd1,hd2,hd3,hd4⟩:=hd
 cases hn:Zjm a with
 |true=>
  refine⟨⟨-(dec (ZfV a):Int),d,hd2,by show Nat.gcd (-(dec (ZfV a):Int)).natAbs d=1;rw[Int.natAbs_neg,Int.natAbs_natCast];exact hd3⟩, ?_, ?_⟩
  ·have h0:=hs hn
   refine(Zjz a).symm.trans ?_
   rw[hn,hd1,Zbi]
   show mns true _=mns (decide (-(dec (ZfV a):Int)<0)) (decDigits (-(dec (ZfV a):Int)).natAbs++Zbk d)
   rw[Int.natAbs_neg,Int.natAbs_natCast,decide_eq_true (by omega: -(dec (ZfV a):Int)<0)]
  ·refine Zei.2 ⟨?_,hd4⟩
   show(decDigits (-(dec (ZfV a):Int)).natAbs).length≤2000
   rw[Int.natAbs_neg,Int.natAbs_natCast,c1.eq]
   exact l1
 |false=>
  refine⟨⟨(dec (ZfV a):Int),d,hd2,by show Nat.gcd (dec (ZfV a):Int).natAbs d=1;rw[Int.natAbs_natCast];exact hd3⟩, ?_, ?_⟩
  ·refine(Zjz a).symm.trans ?_
   rw[hn,hd1,Zbi]
   show mns false _=mns (decide ((dec (ZfV a):Int)<0)) (decDigits (dec (ZfV a):Int).natAbs++Zbk d)
   rw[Int.natAbs_natCast,decide_eq_false (by omega: ¬ (dec (ZfV a):Int)<0)]
  ·refine Zei.2 ⟨?_,hd4⟩
   show(decDigits (dec (ZfV a):Int).natAbs).length≤2000
   rw[Int.natAbs_natCast,c1.eq]
   exact l1
theorem ZuL {q:Rat} (h:Zeu q=true):(Zbi q).length≤4002:=by
 obtain⟨h1,h2⟩:=Zei.1 h
 have hf:(Zbk q.den).length≤2001:=by
  unfold Zbk
  cases decide (q.den=1)with
  |true=>simp
  |false=>simp only[List.length_cons];omega
 have hm: ∀ (m:Bool) (s:List UInt8),(mns m s).length≤s.length+1:=fun m s=>by cases m<;>simp[mns]
 have:=hm (decide (q.num<0)) (decDigits q.num.natAbs++Zbk q.den)
 rw[List.length_append]at this
 rw[Zbi]
 omega
theorem ZxI {s:List UInt8} (h:Cn s):(s==[48])=decide (dec s=0):=by
 rw[Bool.eq_iff_iff,beq_iff_eq,decide_eq_true_eq,ZrH h]
theorem ZvQ {s:List UInt8} (h:Cn s):(s==[49])=decide (dec s=1):=by
 rw[Bool.eq_iff_iff,beq_iff_eq,decide_eq_true_eq,ZtL h]
theorem Zrk (s:List UInt8) (c:UInt8):(ZcJ s c).1.length≤s.length∧(ZcJ s c).2.1.length≤s.length:=by
 unfold ZcJ
 cases decide (0≤Zbw s c 0)with
 |true=>simp only[List.length_take,List.length_drop];omega
 |false=>simp
theorem Zpu (a:List UInt8):(Zfn a).length≤a.length∧decide (((Zfn a).length:Int)<(a.length:Int))=Zjm a:=by
 have h:=congrArg List.length (Zjz a)
 cases hn:Zjm a with
 |true=>
  rw[hn]at h
  simp only[mns,List.length_cons]at h
  exact⟨by omega,decide_eq_true (by omega)⟩
 |false=>
  rw[hn]at h
  simp only[mns]at h
  exact⟨by omega,decide_eq_false (by omega)⟩
def Zf0 (E1 E2:Int) (z m bad:Bool):Int:=match decide (E1=5)||(decide (E2=5)||(z&&m))with
 |true=>5
 |false=>match decide (E1=0)&&decide (E2=0)with
  |false=>2
  |true=>match bad with
   |true=>3
   |false=>0
theorem Zgv (a:List UInt8):ZaP a=Zf0 (Zaz (ZfV a)) (rE2 a) (ZfV a==[48]) (Zjm a) (Zt9 a):=rfl
def ZeF:List (List UInt8)→Int
 | []=>0
 |a::l=>match decide (ZaP a=0)with
  |true=>ZeF l
  |false=>ZaP a
theorem ZiP: ∀ {l:List (List UInt8)},ZeF l=0→ ∀a∈l,ZaP a=0
 | [],_,_,h=>absurd h List.not_mem_nil
 |b::l,h,a,ha=>by
  rw[ZeF]at h
  cases hb:decide (ZaP b=0)with
  |true=>
   rw[hb]at h
   rcases List.mem_cons.1 ha with rfl|ha
   ·exact of_decide_eq_true hb
   ·exact ZiP h a ha
  |false=>rw[hb]at h;exact absurd h (of_decide_eq_false hb)
theorem Zut (m:Bool) (n d:Nat):ZcJ (mns m (decDigits n++Zbk d)) 47=match decide (d=1)with
 |true=>(mns m (decDigits n),[],false)
 |false=>(mns m (decDigits n),decDigits d,true):=by
 cases m with
 |false=>exact ZnF n d
 |true=>
  have e:Zbw (mns true (decDigits n++Zbk d)) 47 0=Zbw (decDigits n++Zbk d) 47 1:=rfl
  cases hd:decide (d=1)with
  |true=>
   have hf:Zbk d=[]:=by rw[Zbk,hd]
   rw[hf,List.append_nil]at e⊢
   rw[ZhA (ZaI n)]at e
   exact Zfp e
  |false=>
   have hf:Zbk d=47::decDigits d:=by rw[Zbk,hd]
   rw[hf]at e⊢
   rw[ZjP (ZaI n)]at e
   rw[Zfz e,mns,Nat.add_comm,List.take_succ_cons,List.take_left',List.drop_succ_cons,List.drop_append]
   ·simp[mns]
   ·rfl
theorem Zon: ∀ (k n:Nat),(Ztg k n).length≤k
 |0,_=>Nat.le_refl 0
 |k+1,n=>by
  rw[Ztg]
  cases Nat.ble 10 n with
  |true=>
   have:=Zon k (n/10)
   simp only[List.length_append,List.length_singleton]
   omega
  |false=>simp
theorem Zk5 (m:Bool) (l:List Int):(ZcH m l).length≤2101:=by
 unfold ZcH
 cases l.isEmpty with
 |true=>simp
 |false=>
  simp only
  cases Nat.ble l.length 210 with
  |true=>
   have:=Zon 2100 (wv l).toNat
   cases m<;>simp only[List.length_append,List.length_cons,List.length_nil]<;>omega
  |false=>simp
theorem ZmV (v:Int):Zci (wOf v.natAbs)=Nat.ble (decDigits v.natAbs).length 2000∧(Nat.ble (decDigits v.natAbs).length 2000=true→ZcH (decide (v<0)) (wOf v.natAbs)=mns (decide (v<0)) (decDigits v.natAbs)):=by
 obtain⟨h1,h2⟩:=Zqs v.natAbs
 refine⟨h1,fun hb=> ?_⟩
 rw[h2 hb]
 by_cases h:v<0
 ·rw[decide_eq_true h,decide_eq_false (by omega: ¬v.natAbs=0)]
  rfl
 ·rw[decide_eq_false h]
  cases decide (v.natAbs=0)<;>rfl
theorem ZrU:Zbi 0=[48]:=by
 rw[Zbi,Rat.zero_num,Rat.zero_den]
 show mns false (decDigits 0++Zbk 1)=[48]
 rw[decDigits_one (by decide)]
 rfl
end Dv
