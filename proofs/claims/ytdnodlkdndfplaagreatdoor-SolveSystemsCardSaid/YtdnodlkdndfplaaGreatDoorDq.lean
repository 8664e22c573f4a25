/-
 Rational numbers as texts, in plain Lean.
-/
import Derived.Test.YtdnodlkdndfplaaGreatDoorT17
set_option linter.constructorNameAsVariable false
set_option linter.unusedSimpArgs false
set_option linter.unusedVariables false
namespace Dv
open Go Go.Lib
theorem ZiY: ∀ {s:List UInt8},Dg s→ ∀i,ZbN s 47 i= -1
 | [],_,_=>rfl
 |b::l,h,i=>by
  have hb:=(h b List.mem_cons_self).1
  have hf:Nat.beq b.toNat (47:UInt8).toNat=false:=by
   cases hx:Nat.beq b.toNat (47:UInt8).toNat with
   |false=>rfl
   |true=>rw[Nat.eq_of_beq_eq_true hx]at hb;exact absurd hb (by decide)
  rw[ZbN,hf]
  exact ZiY (fun c hc=>h c (List.mem_cons_of_mem _ hc)) _
theorem ZlB: ∀ {s:List UInt8},Dg s→ ∀ (t:List UInt8) (i:Nat),ZbN (s++47::t) 47 i=((i+s.length:Nat):Int)
 | [],_,t,i=>by
  rw[List.nil_append,ZbN]
  rfl
 |b::l,h,t,i=>by
  have hb:=(h b List.mem_cons_self).1
  have hf:Nat.beq b.toNat (47:UInt8).toNat=false:=by
   cases hx:Nat.beq b.toNat (47:UInt8).toNat with
   |false=>rfl
   |true=>rw[Nat.eq_of_beq_eq_true hx]at hb;exact absurd hb (by decide)
  rw[List.cons_append,ZbN,hf]
  simp only
  rw[ZlB (fun c hc=>h c (List.mem_cons_of_mem _ hc)) t (i+1),List.length_cons]
  congr 1
  omega
theorem Zhm: ∀ (s:List UInt8) (c:UInt8) (i:Nat),0≤ZbN s c i→ ∃k:Nat,ZbN s c i=((i+k:Nat):Int)∧s=s.take k++c::s.drop (k+1)
 | [],_,_,h=>by rw[ZbN]at h;omega
 |b::l,c,i,h=>by
  rw[ZbN]at h⊢
  cases hb:Nat.beq b.toNat c.toNat with
  |true=>
   have hbc:b=c:=UInt8.toNat_inj.1 (Nat.eq_of_beq_eq_true hb)
   subst hbc
   exact⟨0,rfl,rfl⟩
  |false=>
   rw[hb]at h
   obtain⟨k,h1,h2⟩:=Zhm l c (i+1) h
   refine⟨k+1, ?_, ?_⟩
   ·simp only
    rw[h1]
    congr 1
    omega
   ·rw[List.take_succ_cons,List.drop_succ_cons,List.cons_append,←h2]
theorem ZfY {s:List UInt8} (h:ZbN s 47 0= -1):Zdf s 47=(s,[],false):=by
 rw[Zdf,h]
 rfl
theorem ZgK {s:List UInt8} {k:Nat} (h:ZbN s 47 0=(k:Int)):Zdf s 47=(s.take k,s.drop (k+1),true):=by
 rw[Zdf,h,decide_eq_true (Int.natCast_nonneg k),Int.toNat_natCast]
theorem Zsd {s:List UInt8} (h:(Zdf s 47).2.2=true):s=(Zdf s 47).1++47::(Zdf s 47).2.1:=by
 cases hd:decide (0≤ZbN s 47 0)with
 |true=>
  obtain⟨k,h1,h2⟩:=Zhm s 47 0 (of_decide_eq_true hd)
  rw[Nat.zero_add]at h1
  rw[ZgK h1]
  exact h2
 |false=>
  unfold Zdf at h
  rw[hd]at h
  cases h
theorem Zkl {s:List UInt8} (h:(Zdf s 47).2.2=false):Zdf s 47=(s,[],false):=by
 unfold Zdf at h⊢
 cases hd:decide (0≤ZbN s 47 0)with
 |true=>rw[hd]at h;cases h
 |false=>rfl
def mns (m:Bool) (s:List UInt8):List UInt8:=match m with
 |true=>45::s
 |false=>s
def ZbB (d:Nat):List UInt8:=match decide (d=1)with
 |true=> []
 |false=>47::decDigits d
def ZaX (q:Rat):List UInt8:=mns (decide (q.num<0)) (decDigits q.num.natAbs++ZbB q.den)
def ZjJ (q:Rat):Bool:=Nat.ble (decDigits q.num.natAbs).length 2000&&Nat.ble (decDigits q.den).length 2000
def Zlz (a:List UInt8):Bool:=a.head? ==some 45
def Zf0 (a:List UInt8):List UInt8:=match Zlz a with
 |true=>a.drop 1
 |false=>a
def Zgc (a:List UInt8):List UInt8:=(Zdf (Zf0 a) 47).1
def Zmy (a:List UInt8):List UInt8:=(Zdf (Zf0 a) 47).2.1
def rIs (a:List UInt8):Bool:=(Zdf (Zf0 a) 47).2.2
def rE1 (a:List UInt8):Int:=Zay (Zgc a)
def rE2 (a:List UInt8):Int:=match rIs a with
 |true=>Zay (Zmy a)
 |false=>0
def Zw5 (a:List UInt8):Bool:=rIs a&&(decide (dec (Zmy a)=0)||(decide (dec (Zmy a)=1)|| !decide (Nat.gcd (dec (Zgc a)) (dec (Zmy a))=1)))
def ZbK (a:List UInt8):Int:=match decide (rE1 a=5)||(decide (rE2 a=5)||(Zgc a==[48]&&Zlz a))with
 |true=>5
 |false=>match decide (rE1 a=0)&&decide (rE2 a=0)with
  |false=>2
  |true=>match Zw5 a with
   |true=>3
   |false=>0
theorem Zqx {m:Bool} {s:List UInt8} (h:s.head?≠some 45):Zlz (mns m s)=m:=by
 cases m with
 |true=>rfl
 |false=>simpa[Zlz,mns]using h
theorem ZvD {m:Bool} {s:List UInt8} (h:s.head?≠some 45):Zf0 (mns m s)=s:=by
 rw[Zf0,Zqx h]
 cases m<;>rfl
theorem ZkO (a:List UInt8):mns (Zlz a) (Zf0 a)=a:=by
 rw[Zf0]
 cases h:Zlz a with
 |false=>rfl
 |true=>
  cases a with
  |nil=>cases h
  |cons b l=>
   have:b=45:=by simpa[Zlz]using h
   subst this
   rfl
theorem Zy0 {s t:List UInt8} (h:Dg s) (hs:s≠ []):(s++t).head?≠some 45:=by
 cases s with
 |nil=>exact absurd rfl hs
 |cons b l=>
  intro he
  have hb:=(h b List.mem_cons_self).1
  have:b=45:=by simpa using he
  subst this
  exact absurd hb (by decide)
theorem Zjg (n d:Nat):(decDigits n++ZbB d).head?≠some 45:=Zy0 (ZaO n) (ZeF n)
theorem Zgq (n d:Nat):Zdf (decDigits n++ZbB d) 47=match decide (d=1)with
 |true=>(decDigits n,[],false)
 |false=>(decDigits n,decDigits d,true):=by
 unfold ZbB
 cases decide (d=1)with
 |true=>
  simp only[List.append_nil]
  exact ZfY (ZiY (ZaO n) 0)
 |false=>
  simp only
  have h:=ZlB (ZaO n) (decDigits d) 0
  rw[Nat.zero_add]at h
  rw[ZgK h,List.take_left',List.drop_append]
  ·simp
  ·rfl
theorem Zgt (q:Rat):Zf0 (ZaX q)=decDigits q.num.natAbs++ZbB q.den:=ZvD (Zjg _ _)
theorem ZiB (q:Rat):Zlz (ZaX q)=decide (q.num<0):=Zqx (Zjg _ _)
theorem Zm2 (q:Rat):Zgc (ZaX q)=decDigits q.num.natAbs:=by
 rw[Zgc,Zgt,Zgq]
 cases decide (q.den=1)<;>rfl
theorem Zo4 (q:Rat):rIs (ZaX q)= !decide (q.den=1):=by
 rw[rIs,Zgt,Zgq]
 cases decide (q.den=1)<;>rfl
theorem Zl4 (q:Rat):Zmy (ZaX q)=match decide (q.den=1)with|true=> []|false=>decDigits q.den:=by
 rw[Zmy,Zgt,Zgq]
 cases decide (q.den=1)<;>rfl
theorem Ze0 {q:Rat}:ZjJ q=true↔(decDigits q.num.natAbs).length≤2000∧(decDigits q.den).length≤2000:=by
 rw[ZjJ,Bool.and_eq_true,Nat.ble_eq,Nat.ble_eq]
theorem Zuf {s:List UInt8} (hs:Cn s):dec s=0↔s=[48]:=by
 constructor
 ·intro h
  have:=hs.eq
  rw[h,decDigits_one (by decide)]at this
  exact this.symm
 ·rintro rfl;rfl
theorem Zxg {s:List UInt8} (hs:Cn s):dec s=1↔s=[49]:=by
 constructor
 ·intro h
  have:=hs.eq
  rw[h,decDigits_one (by decide)]at this
  exact this.symm
 ·rintro rfl;rfl
theorem ZnE {a:List UInt8} (h:ZbK a=0): ∃q:Rat,a=ZaX q∧ZjJ q=true:=by
 unfold ZbK at h
 cases h1:decide (rE1 a=5)||(decide (rE2 a=5)||(Zgc a==[48]&&Zlz a))with
 |true=>rw[h1]at h;cases h
 |false=>
 cases h2:decide (rE1 a=0)&&decide (rE2 a=0)with
 |false=>rw[h1,h2]at h;cases h
 |true=>
 cases h3:Zw5 a with
 |true=>rw[h1,h2,h3]at h;cases h
 |false=>
 rw[Bool.or_eq_false_iff,Bool.or_eq_false_iff]at h1
 rw[Bool.and_eq_true,decide_eq_true_eq,decide_eq_true_eq]at h2
 obtain⟨c1,l1⟩:=Za6 h2.1
 have hs:Zlz a=true→dec (Zgc a)≠0:=fun hn h0=>by
  have:=h1.2.2
  rw[hn,(Zuf c1).1 h0]at this
  cases this
 have hd: ∃d:Nat,Zf0 a=decDigits (dec (Zgc a))++ZbB d∧d≠0∧Nat.gcd (dec (Zgc a)) d=1∧(decDigits d).length≤2000:=by
  cases hi:rIs a with
  |true=>
   have e2:=h2.2
   rw[rE2,hi]at e2
   obtain⟨c2,l2⟩:=Za6 e2
   rw[Zw5,hi,Bool.true_and,Bool.or_eq_false_iff,Bool.or_eq_false_iff,Bool.not_eq_false',decide_eq_false_iff_not,decide_eq_false_iff_not,decide_eq_true_eq]at h3
   refine⟨dec (Zmy a), ?_,h3.1,h3.2.2,by rw[c2.eq];exact l2⟩
   rw[ZbB,decide_eq_false h3.2.1,c1.eq,c2.eq]
   exact Zsd hi
  |false=>
   refine⟨1, ?_,by decide,Nat.gcd_one_right _,by rw[decDigits_one (by decide)];decide⟩
   have e:=Zkl hi
   have e1:Zgc a=Zf0 a:=by rw[Zgc,e]
   rw[c1.eq,e1]
   simp[ZbB]
 obtain⟨d,hd1,hd2,hd3,hd4⟩:=hd
 cases hn:Zlz a with
 |true=>
  refine⟨⟨-(dec (Zgc a):Int),d,hd2,by show Nat.gcd (-(dec (Zgc a):Int)).natAbs d=1;rw[Int.natAbs_neg,Int.natAbs_natCast];exact hd3⟩, ?_, ?_⟩
  ·have h0:=hs hn
   refine(ZkO a).symm.trans ?_
   rw[hn,hd1,ZaX]
   show mns true _=mns (decide (-(dec (Zgc a):Int)<0)) (decDigits (-(dec (Zgc a):Int)).natAbs++ZbB d)
   rw[Int.natAbs_neg,Int.natAbs_natCast,decide_eq_true (by omega: -(dec (Zgc a):Int)<0)]
  ·refine Ze0.2 ⟨?_,hd4⟩
   show(decDigits (-(dec (Zgc a):Int)).natAbs).length≤2000
   rw[Int.natAbs_neg,Int.natAbs_natCast,c1.eq]
   exact l1
 |false=>
  refine⟨⟨(dec (Zgc a):Int),d,hd2,by show Nat.gcd (dec (Zgc a):Int).natAbs d=1;rw[Int.natAbs_natCast];exact hd3⟩, ?_, ?_⟩
  ·refine(ZkO a).symm.trans ?_
   rw[hn,hd1,ZaX]
   show mns false _=mns (decide ((dec (Zgc a):Int)<0)) (decDigits (dec (Zgc a):Int).natAbs++ZbB d)
   rw[Int.natAbs_natCast,decide_eq_false (by omega: ¬ (dec (Zgc a):Int)<0)]
  ·refine Ze0.2 ⟨?_,hd4⟩
   show(decDigits (dec (Zgc a):Int).natAbs).length≤2000
   rw[Int.natAbs_natCast,c1.eq]
   exact l1
theorem Zwp {p q:Rat} (h:ZaX p=ZaX q):p=q:=by
 have h1:=Zm2 p
 rw[h,Zm2]at h1
 have h2:=ZiB p
 rw[h,ZiB]at h2
 have h3:=Zl4 p
 rw[h,Zl4]at h3
 have h4:=Zo4 p
 rw[h,Zo4]at h4
 have e1:q.num.natAbs=p.num.natAbs:=by rw[←Zao q.num.natAbs,h1,Zao]
 refine Rat.ext ?_ ?_
 ·have:=decide_eq_decide.1 h2
  omega
 ·cases hp:decide (p.den=1)with
  |true=>
   rw[hp]at h4
   have:q.den=1:=by simpa using h4
   rw[of_decide_eq_true hp,this]
  |false=>
   have hq:decide (q.den=1)=false:=by rw[hp]at h4;simpa using h4
   rw[hp,hq]at h3
   simp only at h3
   rw[←Zao p.den,←h3,Zao]
theorem Zx5 {q:Rat} (h:ZjJ q=true):(ZaX q).length≤4002:=by
 obtain⟨h1,h2⟩:=Ze0.1 h
 have hf:(ZbB q.den).length≤2001:=by
  unfold ZbB
  cases decide (q.den=1)with
  |true=>simp
  |false=>simp only[List.length_cons];omega
 have hm: ∀ (m:Bool) (s:List UInt8),(mns m s).length≤s.length+1:=fun m s=>by cases m<;>simp[mns]
 have:=hm (decide (q.num<0)) (decDigits q.num.natAbs++ZbB q.den)
 rw[List.length_append]at this
 rw[ZaX]
 omega
theorem ZB3 {s:List UInt8} (h:Cn s):(s==[48])=decide (dec s=0):=by
 rw[Bool.eq_iff_iff,beq_iff_eq,decide_eq_true_eq,Zuf h]
theorem ZzP {s:List UInt8} (h:Cn s):(s==[49])=decide (dec s=1):=by
 rw[Bool.eq_iff_iff,beq_iff_eq,decide_eq_true_eq,Zxg h]
theorem ZsF (s:List UInt8) (c:UInt8):(Zdf s c).1.length≤s.length∧(Zdf s c).2.1.length≤s.length:=by
 unfold Zdf
 cases decide (0≤ZbN s c 0)with
 |true=>simp only[List.length_take,List.length_drop];omega
 |false=>simp
theorem Zue (a:List UInt8):(Zf0 a).length≤a.length∧decide (((Zf0 a).length:Int)<(a.length:Int))=Zlz a:=by
 have h:=congrArg List.length (ZkO a)
 cases hn:Zlz a with
 |true=>
  rw[hn]at h
  simp only[mns,List.length_cons]at h
  exact⟨by omega,decide_eq_true (by omega)⟩
 |false=>
  rw[hn]at h
  simp only[mns]at h
  exact⟨by omega,decide_eq_false (by omega)⟩
def Zg9 (E1 E2:Int) (z m bad:Bool):Int:=match decide (E1=5)||(decide (E2=5)||(z&&m))with
 |true=>5
 |false=>match decide (E1=0)&&decide (E2=0)with
  |false=>2
  |true=>match bad with
   |true=>3
   |false=>0
theorem Zht (a:List UInt8):ZbK a=Zg9 (Zay (Zgc a)) (rE2 a) (Zgc a==[48]) (Zlz a) (Zw5 a):=rfl
def ZfF:List (List UInt8)→Int
 | []=>0
 |a::l=>match decide (ZbK a=0)with
  |true=>ZfF l
  |false=>ZbK a
theorem Zg4: ∀ {l:List (List UInt8)},ZfF l=0→ ∀a∈l,ZbK a=0
 | [],_,_,h=>absurd h List.not_mem_nil
 |b::l,h,a,ha=>by
  rw[ZfF]at h
  cases hb:decide (ZbK b=0)with
  |true=>
   rw[hb]at h
   rcases List.mem_cons.1 ha with rfl|ha
   ·exact of_decide_eq_true hb
   ·exact Zg4 h a ha
  |false=>rw[hb]at h;exact absurd h (of_decide_eq_false hb)
theorem Zyz (m:Bool) (n d:Nat):Zdf (mns m (decDigits n++ZbB d)) 47=match decide (d=1)with
 |true=>(mns m (decDigits n),[],false)
 |false=>(mns m (decDigits n),decDigits d,true):=by
 cases m with
 |false=>exact Zgq n d
 |true=>
  have e:ZbN (mns true (decDigits n++ZbB d)) 47 0=ZbN (decDigits n++ZbB d) 47 1:=rfl
  cases hd:decide (d=1)with
  |true=>
   have hf:ZbB d=[]:=by rw[ZbB,hd]
   rw[hf,List.append_nil]at e⊢
   rw[ZiY (ZaO n)]at e
   exact ZfY e
  |false=>
   have hf:ZbB d=47::decDigits d:=by rw[ZbB,hd]
   rw[hf]at e⊢
   rw[ZlB (ZaO n)]at e
   rw[ZgK e,mns,Nat.add_comm,List.take_succ_cons,List.take_left',List.drop_succ_cons,List.drop_append]
   ·simp[mns]
   ·rfl
theorem Zp5: ∀ (k n:Nat),(Zvb k n).length≤k
 |0,_=>Nat.le_refl 0
 |k+1,n=>by
  rw[Zvb]
  cases Nat.ble 10 n with
  |true=>
   have:=Zp5 k (n/10)
   simp only[List.length_append,List.length_singleton]
   omega
  |false=>simp
theorem Zl1 (m:Bool) (l:List Int):(Zda m l).length≤2101:=by
 unfold Zda
 cases l.isEmpty with
 |true=>simp
 |false=>
  simp only
  cases Nat.ble l.length 210 with
  |true=>
   have:=Zp5 2100 (wv l).toNat
   cases m<;>simp only[List.length_append,List.length_cons,List.length_nil]<;>omega
  |false=>simp
theorem ZqN (v:Int):ZcB (wOf v.natAbs)=Nat.ble (decDigits v.natAbs).length 2000∧(Nat.ble (decDigits v.natAbs).length 2000=true→Zda (decide (v<0)) (wOf v.natAbs)=mns (decide (v<0)) (decDigits v.natAbs)):=by
 obtain⟨h1,h2⟩:=Ztu v.natAbs
 refine⟨h1,fun hb=> ?_⟩
 rw[h2 hb]
 by_cases h:v<0
 ·rw[decide_eq_true h,decide_eq_false (by omega: ¬v.natAbs=0)]
  rfl
 ·rw[decide_eq_false h]
  cases decide (v.natAbs=0)<;>rfl
theorem Znw:ZaX 0=[48]:=by
 rw[ZaX,Rat.zero_num,Rat.zero_den]
 show mns false (decDigits 0++ZbB 1)=[48]
 rw[decDigits_one (by decide)]
 rfl
theorem Zmb (q:Rat):(ZaX q==[48])=decide (q=0):=by
 rw[Bool.eq_iff_iff,beq_iff_eq,decide_eq_true_eq,←Znw]
 exact⟨Zwp,fun h=>by rw[h]⟩
end Dv
/-
 large.Ratio: a fraction in lowest terms.
-/
namespace Go.Proofs.YtdnodlkdndfplaaGreatDoor
open Go.Am Go.Tx Dv Go.Lib
set_option maxRecDepth 100000
abbrev QR (q:Rat):SV:=QS q.num (q.den:Int)
theorem Zp7 {n:Nat} (h:((wOf n).length:Int)=1) {x:Int} (hx:(wOf n)[(0:Int).toNat]? =some x) (h1:x=1):n=1:=by
 have hv:=Zb6 n
 obtain⟨w,hw⟩: ∃w,wOf n=w:=⟨_,rfl⟩
 rw[hw]at h hx hv
 match w,h,hx,hv with
 | [y],_,hx,hv=>
  have hy:y=x:=by simpa using hx
  rw[hy,h1]at hv
  simp only[wv]at hv
  omega
 | [],h,_,_=>simp at h
 |_::_::_,h,_,_=>simp only[List.length_cons]at h;omega
theorem ZdK {n d:Int} (hd:0<d):(Rat.divInt n d).num=n/(Int.gcd n d:Int)∧((Rat.divInt n d).den:Int)=d/(Int.gcd n d:Int):=by
 rw[Rat.num_divInt,Rat.den_divInt,Int.sign_eq_one_of_pos hd,if_neg (by omega),Int.one_mul,Int.gcd_comm d n,Int.natCast_ediv,Int.natAbs_of_nonneg (by omega)]
 exact⟨rfl,rfl⟩
theorem Zrq (n:Int) {d:Int} (h:d.natAbs=1) (hd:0<d):QR (Rat.divInt n d)=QS n d:=by
 have:d=1:=by omega
 subst this
 obtain⟨h1,h2⟩:=ZdK (n:=n) (d:=1) (by decide)
 rw[Int.gcd_one,Int.natCast_one,Int.ediv_one]at h1 h2
 show QS _ _=_
 rw[h1,h2]
theorem Zq1 (n:Int) {d:Int} (h:(Int.gcd n d:Int).natAbs=1) (hd:0<d):QR (Rat.divInt n d)=QS n d:=by
 obtain⟨h1,h2⟩:=ZdK (n:=n) hd
 have hg:(Int.gcd n d:Int)=1:=by omega
 rw[hg,Int.ediv_one]at h1 h2
 show QS _ _=_
 rw[h1,h2]
theorem Ztd {n g:Int} (hg:0<g) (hdv:g∣n):(match decide (n<0)with|true=>decide ((0:Int)<((wOf ((n.natAbs:Int)/g).natAbs).length:Int))|false=>false)=decide (n/g<0)∧((n.natAbs:Int)/g).natAbs=(n/g).natAbs:=by
 obtain⟨k,rfl⟩:=hdv
 rw[Int.mul_ediv_cancel_left _ (by omega),Int.natAbs_mul,Int.natCast_mul,Int.natAbs_of_nonneg (by omega),Int.mul_ediv_cancel_left _ (by omega),Int.natAbs_natCast]
 refine⟨?_,rfl⟩
 by_cases hk:k<0
 ·rw[decide_eq_true (Int.mul_neg_of_pos_of_neg hg hk),decide_eq_true hk]
  refine decide_eq_true ?_
  have:wOf k.natAbs≠ []:=by rw[ne_eq,Zeo];omega
  have:=List.length_pos_iff.2 this
  omega
 ·rw[decide_eq_false (by have:=Int.mul_nonneg (a:=g) (b:=k) (by omega) (by omega);omega),decide_eq_false hk]
def ZB1 (m:Bool) (n d:Int) (z:List SV):List SM:=[.cell [.v .b m,Za5 (wOf n.natAbs)] true, .cell [.v .b (decide (d<0)),Za5 (wOf d.natAbs)] true, .cell z true]
def ZBc (m:Bool) (n d g:Int) (z:List SV):List SM:=[.cell [.v .b m,Za5 (wOf n.natAbs)] true, .cell [.v .b (decide (d<0)),Za5 (wOf d.natAbs)] true, .cell z true, .cell [.v .b (decide (g<0)),Za5 (wOf g.natAbs)] true]
def Zzf:List SV:=[.v .b false, .nils, .v .b false, .nils]
set_option maxHeartbeats 8000000 in
theorem ZnX (n d:Int) (hd0:d≠0) (hln:ln n≤700000000) (hld:ln d≤700000000):PureOK Tryz.prog Zan 102 [IS n,IS d] (fun V=>V=QR (Rat.divInt n d)):=by
 refine Zac Zaa Tryz.func102 ?_
 refine And.intro rfl ?_
 refine And.intro (fun h=> ?_) (fun h=> ?_)
 have hneg:d<0:=of_decide_eq_true h
 obtain⟨n',hn'⟩: ∃n',-n=n':=⟨_,rfl⟩
 obtain⟨d',hd'⟩: ∃d',-d=d':=⟨_,rfl⟩
 have hN:=Zwa n (by omega)
 have hD:=Zwa d (by omega)
 rw[hn']at hN
 rw[hd']at hD
 have hq:Rat.divInt n d=Rat.divInt n' d':=by rw[←hn',←hd',Rat.neg_divInt_neg]
 have hd:0<d':=by omega
 have hln':ln n'≤700000000:=by rw[←hn',Zqg];exact hln
 have hld':ln d'≤700000000:=by rw[←hd',Zqg];exact hld
 refine And.intro rfl ?_
 refine hN.mono ?_
 rintro _ rfl
 refine And.intro rfl ?_
 refine hD.mono ?_
 rintro _ rfl
 refine And.intro rfl ?_
 refine And.intro rfl ?_
 refine ZlT (ZB1 (decide (n'<0)) n' d' Zzf) rfl ?_
 rotate_left 1
 obtain⟨n',hn'⟩: ∃n',n'=n:=⟨_,rfl⟩
 obtain⟨d',hd'⟩: ∃d',d'=d:=⟨_,rfl⟩
 have hq:Rat.divInt n d=Rat.divInt n' d':=by rw[hn',hd']
 have hd:0<d':=by
  have:=of_decide_eq_false h
  omega
 have hln':ln n'≤700000000:=by rw[hn'];exact hln
 have hld':ln d'≤700000000:=by rw[hd'];exact hld
 subst hn' hd'
 refine ZlT (ZB1 (decide (n'<0)) n' d' Zzf) rfl ?_
 all_goals
  rw[hq]
  have hG:=ZzI n' d' hln' hld'
  obtain⟨g,hg⟩: ∃g:Int,(Int.gcd n' d':Int)=g:=⟨_,rfl⟩
  have hg0:0<g:=by
   have:0<Int.gcd n' d':=Int.gcd_pos_of_ne_zero_right _ (by omega)
   omega
  have hlg:ln g≤700000000:=by
   refine Nat.le_trans (Zi7 (b:=d') ?_) hld'
   have:Int.gcd n' d'∣d'.natAbs:=Int.gcd_dvd_natAbs_right _ _
   have:=Nat.le_of_dvd (by omega) this
   omega
  have hdn:g∣n':=by rw[←hg];exact Int.gcd_dvd_left _ _
  obtain⟨q1,q2⟩:=ZdK (n:=n') hd
  have hone:=Zq1 n' (d:=d')
  rw[hg]at hG q1 q2 hone
  have hA:=Zo8 (n'.natAbs:Int) g hg0 (by rw[ln,Int.natAbs_natCast];exact hln') hlg
  rw[ZpZ]at hA
  have hB:=Zo8 d' g hg0 hld' hlg
  obtain⟨s1,s2⟩:=Ztd (n:=n') hg0 hdn
  obtain⟨A,eA⟩: ∃A,(n'.natAbs:Int)/g=A:=⟨_,rfl⟩
  obtain⟨Ar,eAr⟩: ∃A,(n'.natAbs:Int) % g=A:=⟨_,rfl⟩
  obtain⟨B,eB⟩: ∃A,d'/g=A:=⟨_,rfl⟩
  obtain⟨Br,eBr⟩: ∃A,d' % g=A:=⟨_,rfl⟩
  rw[eA,eAr]at hA
  rw[eB,eBr]at hB
  rw[eA]at s1 s2
  rw[eB]at q2
  first|refine ZaA (ZaI rfl ?_)|refine ZaA (ZaA (ZaI rfl ?_))
  refine Zad ?_
  refine ZhR rfl (fun _=>rfl) rfl rfl rfl ?_
  iterate 3 refine Zad ?_
  refine @Classical.byCases (decide (((wOf d'.natAbs).length:Int)=1)=true) _ (fun hl=> ?_) (fun hl=> ?_)
  obtain⟨y,hy⟩: ∃y,(wOf d'.natAbs)[(0:Int).toNat]? =some y:=⟨_,List.getElem?_eq_getElem (by have:=of_decide_eq_true hl;show 0<_;omega)⟩
  refine Zae hl ?_
  refine ZiA rfl rfl rfl hl (fun _=>rfl) rfl rfl rfl ?_
  refine Zio rfl rfl rfl hl (fun _=>rfl) (Int.le_refl 0) hy rfl rfl ?_
  iterate 2 refine Zae hl ?_
  refine ZaY hl ?_
  refine Za0 ?_
  refine And.intro (fun h=> ?_) (fun _=> ?_)
  ·have e:=Zrq n' (Zp7 (of_decide_eq_true hl) hy (of_decide_eq_true h)) hd
   refine And.intro rfl ?_
   refine And.intro rfl ?_
   refine And.intro rfl ?_
   refine And.intro rfl ?_
   rw[e]
   rfl
  rotate_left 1
  have hl:decide (((wOf d'.natAbs).length:Int)=1)=false:=by simpa using hl
  iterate 5 refine ZaL hl ?_
  refine ZaW hl ?_
  refine Za0 ?_
  refine brF rfl ?_
  all_goals
   clear hl
   refine And.intro rfl ?_
   refine And.intro rfl ?_
   refine hG.mono ?_
   rintro _ rfl
   refine And.intro rfl ?_
   refine ZlT (ZBc (decide (n'<0)) n' d' g Zzf) rfl ?_
   first|refine ZaA (ZaI rfl ?_)|refine ZaA (ZaA (ZaI rfl ?_))
   refine Zad ?_
   refine ZhR rfl (fun _=>rfl) rfl rfl rfl ?_
   iterate 3 refine Zad ?_
   refine @Classical.byCases (decide (((wOf g.natAbs).length:Int)=1)=true) _ (fun hl=> ?_) (fun hl=> ?_)
   obtain⟨y,hy⟩: ∃y,(wOf g.natAbs)[(0:Int).toNat]? =some y:=⟨_,List.getElem?_eq_getElem (by have:=of_decide_eq_true hl;show 0<_;omega)⟩
   refine Zae hl ?_
   refine ZiA rfl rfl rfl hl (fun _=>rfl) rfl rfl rfl ?_
   refine Zio rfl rfl rfl hl (fun _=>rfl) (Int.le_refl 0) hy rfl rfl ?_
   iterate 2 refine Zae hl ?_
   refine ZaY hl ?_
   refine Za0 ?_
   refine And.intro (fun h=> ?_) (fun _=> ?_)
   ·have e:=hone (Zp7 (of_decide_eq_true hl) hy (of_decide_eq_true h)) hd
    refine And.intro rfl ?_
    refine And.intro rfl ?_
    refine And.intro rfl ?_
    refine And.intro rfl ?_
    rw[e]
    rfl
   rotate_left 1
   have hl:decide (((wOf g.natAbs).length:Int)=1)=false:=by simpa using hl
   iterate 5 refine ZaL hl ?_
   refine ZaW hl ?_
   refine Za0 ?_
   refine brF rfl ?_
   all_goals
    clear hl
    refine And.intro rfl ?_
    refine And.intro rfl ?_
    refine ZlT (ZBc false n' d' g Zzf) rfl ?_
    refine And.intro rfl ?_
    refine And.intro rfl ?_
    refine hA.mono ?_
    rintro _ rfl
    refine And.intro rfl ?_
    refine ZlT (ZBc (decide (A<0)) A d' g Zzf) rfl ?_
    refine And.intro rfl ?_
    refine And.intro rfl ?_
    refine hB.mono ?_
    rintro _ rfl
    refine And.intro rfl ?_
    refine ZlT (ZBc (decide (A<0)) A B g Zzf) rfl ?_
    first|refine ZaA (ZaI rfl ?_)|refine ZaA (ZaA (ZaI rfl ?_))
    iterate 2 refine Zad ?_
    obtain⟨m,hm⟩: ∃m,decide (n'<0)=m:=⟨_,rfl⟩
    rw[hm]at s1
    cases m with
    |true=>
     refine Zae hm ?_
     refine ZiA rfl rfl rfl hm (fun _=>rfl) rfl rfl rfl ?_
     iterate 2 refine Zae hm ?_
     refine ZaY hm ?_
     refine Zad ?_
     refine Zag rfl (And.intro rfl ?_)
     refine And.intro rfl ?_
     refine And.intro rfl ?_
     refine And.intro rfl ?_
     refine And.intro rfl ?_
     show SV.agg [.v .b (decide ((0:Int)<((wOf A.natAbs).length:Int))),Za5 (wOf A.natAbs), .v .b (decide (B<0)),Za5 (wOf B.natAbs)]=QS _ _
     simp only at s1
     rw[s2]at s1
     rw[q1,q2,s2,s1]
    |false=>
     iterate 4 refine ZaL hm ?_
     refine ZaW hm ?_
     refine Zad ?_
     refine Zag rfl (And.intro rfl ?_)
     refine And.intro rfl ?_
     refine And.intro rfl ?_
     refine And.intro rfl ?_
     refine And.intro rfl ?_
     show SV.agg [.v .b false,Za5 (wOf A.natAbs), .v .b (decide (B<0)),Za5 (wOf B.natAbs)]=QS _ _
     simp only at s1
     rw[q1,q2,s2]
     show SV.agg [.v .b false,Za5 (wOf (n'/g).natAbs), .v .b (decide (B<0)),Za5 (wOf B.natAbs)]=SV.agg [.v .b (decide (n'/g<0)),Za5 (wOf (n'/g).natAbs), .v .b (decide (B<0)),Za5 (wOf B.natAbs)]
     rw[←s1]
end Go.Proofs.YtdnodlkdndfplaaGreatDoor
