/-
 Rational numbers as texts, in plain Lean.
-/
import Derived.Test.YtkhpbclcfldhmaaGreatDoorT17
set_option linter.constructorNameAsVariable false
set_option linter.unusedSimpArgs false
set_option linter.unusedVariables false
namespace Dv
open Go Go.Lib
theorem Zi9: ∀ {s:List UInt8},Dg s→ ∀i,ZgV s 47 i= -1
 | [],_,_=>rfl
 |b::l,h,i=>by
  have hb:=(h b List.mem_cons_self).1
  have hf:Nat.beq b.toNat (47:UInt8).toNat=false:=by
   cases hx:Nat.beq b.toNat (47:UInt8).toNat with
   |false=>rfl
   |true=>rw[Nat.eq_of_beq_eq_true hx]at hb;exact absurd hb (by decide)
  rw[ZgV,hf]
  exact Zi9 (fun c hc=>h c (List.mem_cons_of_mem _ hc)) _
theorem ZkF: ∀ {s:List UInt8},Dg s→ ∀ (t:List UInt8) (i:Nat),ZgV (s++47::t) 47 i=((i+s.length:Nat):Int)
 | [],_,t,i=>by
  rw[List.nil_append,ZgV]
  rfl
 |b::l,h,t,i=>by
  have hb:=(h b List.mem_cons_self).1
  have hf:Nat.beq b.toNat (47:UInt8).toNat=false:=by
   cases hx:Nat.beq b.toNat (47:UInt8).toNat with
   |false=>rfl
   |true=>rw[Nat.eq_of_beq_eq_true hx]at hb;exact absurd hb (by decide)
  rw[List.cons_append,ZgV,hf]
  simp only
  rw[ZkF (fun c hc=>h c (List.mem_cons_of_mem _ hc)) t (i+1),List.length_cons]
  congr 1
  omega
theorem ZlP {s:List UInt8} (h:ZgV s 47 0= -1):ZhH s 47=(s,[],false):=by
 rw[ZhH,h]
 rfl
theorem Zse {s:List UInt8} {k:Nat} (h:ZgV s 47 0=(k:Int)):ZhH s 47=(s.take k,s.drop (k+1),true):=by
 rw[ZhH,h,decide_eq_true (Int.natCast_nonneg k),Int.toNat_natCast]
def mns (m:Bool) (s:List UInt8):List UInt8:=match m with
 |true=>45::s
 |false=>s
def ZdB (d:Nat):List UInt8:=match decide (d=1)with
 |true=> []
 |false=>47::decDigits d
def ZcH (q:Rat):List UInt8:=mns (decide (q.num<0)) (decDigits q.num.natAbs++ZdB q.den)
def Ze1 (q:Rat):Bool:=Nat.ble (decDigits q.num.natAbs).length 2000&&Nat.ble (decDigits q.den).length 2000
def ZtF (q:Rat):List UInt8×Int:=match Ze1 q with
 |true=>(ZcH q,0)
 |false=>([],2)
def Zm8 (a:List UInt8):Bool:=a.head? ==some 45
def Zkb (a:List UInt8):List UInt8:=match Zm8 a with
 |true=>a.drop 1
 |false=>a
def Ztf (a:List UInt8):List UInt8:=(ZhH (Zkb a) 47).1
def ZqK (a:List UInt8):List UInt8:=(ZhH (Zkb a) 47).2.1
def rIs (a:List UInt8):Bool:=(ZhH (Zkb a) 47).2.2
def rE1 (a:List UInt8):Int:=ZaL (Ztf a)
def rE2 (a:List UInt8):Int:=match rIs a with
 |true=>ZaL (ZqK a)
 |false=>0
def Zw5 (a:List UInt8):Bool:=rIs a&&(decide (dec (ZqK a)=0)||(decide (dec (ZqK a)=1)|| !decide (Nat.gcd (dec (Ztf a)) (dec (ZqK a))=1)))
def ZbK (a:List UInt8):Int:=match decide (rE1 a=5)||(decide (rE2 a=5)||(Ztf a==[48]&&Zm8 a))with
 |true=>5
 |false=>match decide (rE1 a=0)&&decide (rE2 a=0)with
  |false=>2
  |true=>match Zw5 a with
   |true=>3
   |false=>0
theorem Zow {m:Bool} {s:List UInt8} (h:s.head?≠some 45):Zm8 (mns m s)=m:=by
 cases m with
 |true=>rfl
 |false=>simpa[Zm8,mns]using h
theorem ZtI {m:Bool} {s:List UInt8} (h:s.head?≠some 45):Zkb (mns m s)=s:=by
 rw[Zkb,Zow h]
 cases m<;>rfl
theorem ZwR (a:List UInt8):mns (Zm8 a) (Zkb a)=a:=by
 rw[Zkb]
 cases h:Zm8 a with
 |false=>rfl
 |true=>
  cases a with
  |nil=>cases h
  |cons b l=>
   have:b=45:=by simpa[Zm8]using h
   subst this
   rfl
theorem Zv1 {s t:List UInt8} (h:Dg s) (hs:s≠ []):(s++t).head?≠some 45:=by
 cases s with
 |nil=>exact absurd rfl hs
 |cons b l=>
  intro he
  have hb:=(h b List.mem_cons_self).1
  have:b=45:=by simpa using he
  subst this
  exact absurd hb (by decide)
theorem Zl5 (n d:Nat):(decDigits n++ZdB d).head?≠some 45:=Zv1 (ZbH n) (Zid n)
theorem ZhI (n d:Nat):ZhH (decDigits n++ZdB d) 47=match decide (d=1)with
 |true=>(decDigits n,[],false)
 |false=>(decDigits n,decDigits d,true):=by
 unfold ZdB
 cases decide (d=1)with
 |true=>
  simp only[List.append_nil]
  exact ZlP (Zi9 (ZbH n) 0)
 |false=>
  simp only
  have h:=ZkF (ZbH n) (decDigits d) 0
  rw[Nat.zero_add]at h
  rw[Zse h,List.take_left',List.drop_append]
  ·simp
  ·rfl
theorem Zit (q:Rat):Zkb (ZcH q)=decDigits q.num.natAbs++ZdB q.den:=ZtI (Zl5 _ _)
theorem Zsa (q:Rat):Zm8 (ZcH q)=decide (q.num<0):=Zow (Zl5 _ _)
theorem Zi1 (q:Rat):Ztf (ZcH q)=decDigits q.num.natAbs:=by
 rw[Ztf,Zit,ZhI]
 cases decide (q.den=1)<;>rfl
theorem Zoc (q:Rat):rIs (ZcH q)= !decide (q.den=1):=by
 rw[rIs,Zit,ZhI]
 cases decide (q.den=1)<;>rfl
theorem ZlR (q:Rat):ZqK (ZcH q)=match decide (q.den=1)with|true=> []|false=>decDigits q.den:=by
 rw[ZqK,Zit,ZhI]
 cases decide (q.den=1)<;>rfl
theorem Zea {q:Rat}:Ze1 q=true↔(decDigits q.num.natAbs).length≤2000∧(decDigits q.den).length≤2000:=by
 rw[Ze1,Bool.and_eq_true,Nat.ble_eq,Nat.ble_eq]
theorem Znd {n:Nat} (h:decDigits n=[48]):n=0:=by
 have:=Zbj n
 rw[h]at this
 exact this.symm
theorem ZwQ {s:List UInt8} (hs:Cn s):dec s=0↔s=[48]:=by
 constructor
 ·intro h
  have:=hs.eq
  rw[h,decDigits_one (by decide)]at this
  exact this.symm
 ·rintro rfl;rfl
theorem ZuR {s:List UInt8} (hs:Cn s):dec s=1↔s=[49]:=by
 constructor
 ·intro h
  have:=hs.eq
  rw[h,decDigits_one (by decide)]at this
  exact this.symm
 ·rintro rfl;rfl
theorem Zcj {q:Rat} (h:Ze1 q=true):ZbK (ZcH q)=0:=by
 obtain⟨h1,h2⟩:=Zea.1 h
 have e1:rE1 (ZcH q)=0:=by rw[rE1,Zi1];exact ZlQ (ZdG _) h1
 have e2:rE2 (ZcH q)=0:=by
  rw[rE2,Zoc,ZlR]
  cases decide (q.den=1)with
  |true=>rfl
  |false=>exact ZlQ (ZdG _) h2
 have e3:(Ztf (ZcH q)==[48]&&Zm8 (ZcH q))=false:=by
  rw[Zi1,Zsa]
  cases hz:decDigits q.num.natAbs==[48]with
  |false=>rfl
  |true=>
   have:=Znd (eq_of_beq hz)
   rw[Bool.true_and]
   exact decide_eq_false (by omega)
 have e4:Zw5 (ZcH q)=false:=by
  rw[Zw5,Zoc,ZlR,Zi1]
  cases hd:decide (q.den=1)with
  |true=>rfl
  |false=>
   have hd:=of_decide_eq_false hd
   have hz:=q.den_nz
   have hr:decide (Nat.gcd q.num.natAbs q.den=1)=true:=decide_eq_true q.reduced
   simp only
   rw[Zbj,Zbj,hr,decide_eq_false hd,decide_eq_false hz]
   rfl
 rw[ZbK,e1,e2,e3,e4]
 rfl
theorem ZnB {q:Rat} (h:Ze1 q=true):(ZcH q).length≤4002:=by
 obtain⟨h1,h2⟩:=Zea.1 h
 have hf:(ZdB q.den).length≤2001:=by
  unfold ZdB
  cases decide (q.den=1)with
  |true=>simp
  |false=>simp only[List.length_cons];omega
 have hm: ∀ (m:Bool) (s:List UInt8),(mns m s).length≤s.length+1:=fun m s=>by cases m<;>simp[mns]
 have:=hm (decide (q.num<0)) (decDigits q.num.natAbs++ZdB q.den)
 rw[List.length_append]at this
 rw[ZcH]
 omega
theorem ZzW {s:List UInt8} (h:Cn s):(s==[48])=decide (dec s=0):=by
 rw[Bool.eq_iff_iff,beq_iff_eq,decide_eq_true_eq,ZwQ h]
theorem ZzA {s:List UInt8} (h:Cn s):(s==[49])=decide (dec s=1):=by
 rw[Bool.eq_iff_iff,beq_iff_eq,decide_eq_true_eq,ZuR h]
theorem Zws (s:List UInt8) (c:UInt8):(ZhH s c).1.length≤s.length∧(ZhH s c).2.1.length≤s.length:=by
 unfold ZhH
 cases decide (0≤ZgV s c 0)with
 |true=>simp only[List.length_take,List.length_drop];omega
 |false=>simp
theorem ZwJ (a:List UInt8):(Zkb a).length≤a.length∧decide (((Zkb a).length:Int)<(a.length:Int))=Zm8 a:=by
 have h:=congrArg List.length (ZwR a)
 cases hn:Zm8 a with
 |true=>
  rw[hn]at h
  simp only[mns,List.length_cons]at h
  exact⟨by omega,decide_eq_true (by omega)⟩
 |false=>
  rw[hn]at h
  simp only[mns]at h
  exact⟨by omega,decide_eq_false (by omega)⟩
def Zpp (E1 E2:Int) (z m bad:Bool):Int:=match decide (E1=5)||(decide (E2=5)||(z&&m))with
 |true=>5
 |false=>match decide (E1=0)&&decide (E2=0)with
  |false=>2
  |true=>match bad with
   |true=>3
   |false=>0
theorem Zmv (a:List UInt8):ZbK a=Zpp (ZaL (Ztf a)) (rE2 a) (Ztf a==[48]) (Zm8 a) (Zw5 a):=rfl
def Znh:List (List UInt8)→Int
 | []=>0
 |a::l=>match decide (ZbK a=0)with
  |true=>Znh l
  |false=>ZbK a
def Zw7 (a b:List UInt8):Int:=match decide (ZbK a=0)with
 |true=>ZbK b
 |false=>ZbK a
theorem Zrs (a b:List UInt8):Znh [a,b]=Zw7 a b:=by
 simp only[Znh,Zw7]
 cases decide (ZbK a=0)with
 |true=>
  simp only
  cases hb:decide (ZbK b=0)with
  |true=>simp only;exact(of_decide_eq_true hb).symm
  |false=>rfl
 |false=>rfl
theorem ZvX (m:Bool) (n d:Nat):ZhH (mns m (decDigits n++ZdB d)) 47=match decide (d=1)with
 |true=>(mns m (decDigits n),[],false)
 |false=>(mns m (decDigits n),decDigits d,true):=by
 cases m with
 |false=>exact ZhI n d
 |true=>
  have e:ZgV (mns true (decDigits n++ZdB d)) 47 0=ZgV (decDigits n++ZdB d) 47 1:=rfl
  cases hd:decide (d=1)with
  |true=>
   have hf:ZdB d=[]:=by rw[ZdB,hd]
   rw[hf,List.append_nil]at e⊢
   rw[Zi9 (ZbH n)]at e
   exact ZlP e
  |false=>
   have hf:ZdB d=47::decDigits d:=by rw[ZdB,hd]
   rw[hf]at e⊢
   rw[ZkF (ZbH n)]at e
   rw[Zse e,mns,Nat.add_comm,List.take_succ_cons,List.take_left',List.drop_succ_cons,List.drop_append]
   ·simp[mns]
   ·rfl
theorem Zof: ∀ (k n:Nat),(ZtR k n).length≤k
 |0,_=>Nat.le_refl 0
 |k+1,n=>by
  rw[ZtR]
  cases Nat.ble 10 n with
  |true=>
   have:=Zof k (n/10)
   simp only[List.length_append,List.length_singleton]
   omega
  |false=>simp
theorem Zmo (m:Bool) (l:List Int):(Zc8 m l).length≤2101:=by
 unfold Zc8
 cases l.isEmpty with
 |true=>simp
 |false=>
  simp only
  cases Nat.ble l.length 210 with
  |true=>
   have:=Zof 2100 (wv l).toNat
   cases m<;>simp only[List.length_append,List.length_cons,List.length_nil]<;>omega
  |false=>simp
theorem ZoB (v:Int):ZcA (wOf v.natAbs)=Nat.ble (decDigits v.natAbs).length 2000∧(Nat.ble (decDigits v.natAbs).length 2000=true→Zc8 (decide (v<0)) (wOf v.natAbs)=mns (decide (v<0)) (decDigits v.natAbs)):=by
 obtain⟨h1,h2⟩:=Zq9 v.natAbs
 refine⟨h1,fun hb=> ?_⟩
 rw[h2 hb]
 by_cases h:v<0
 ·rw[decide_eq_true h,decide_eq_false (by omega: ¬v.natAbs=0)]
  rfl
 ·rw[decide_eq_false h]
  cases decide (v.natAbs=0)<;>rfl
theorem Zrb {q:Rat} (h:Ze1 q=true):ln q.num≤2000∧ln (q.den:Int)≤2000:=by
 obtain⟨h1,h2⟩:=Zea.1 h
 have hl: ∀n:Nat,(wOf n).length≤(decDigits n).length:=fun n=>by
  have hd:=ZjA (ZbH n)
  rw[Zbj]at hd
  refine Zcg.2 (Nat.lt_of_lt_of_le hd (Nat.pow_le_pow_left (by decide) _))
 refine⟨Nat.le_trans (hl _) h1, ?_⟩
 rw[ln,Int.natAbs_natCast]
 exact Nat.le_trans (hl _) h2
theorem Zer:ZcH 0=[48]:=by
 rw[ZcH,Rat.zero_num,Rat.zero_den]
 show mns false (decDigits 0++ZdB 1)=[48]
 rw[decDigits_one (by decide)]
 rfl
theorem Zdh:Ze1 0=true:=by
 rw[Zea,Rat.zero_num,Rat.zero_den]
 show(decDigits 0).length≤2000∧(decDigits 1).length≤2000
 rw[decDigits_one (by decide),decDigits_one (by decide)]
 exact⟨by decide,by decide⟩
theorem Zps {q:Rat} (h:Ze1 q=true):ZtF q=(ZcH q,0):=by rw[ZtF,h]
theorem ZtK {p q:Rat} (hp:Ze1 p=true) (hq:Ze1 q=true):Zw7 (ZcH p) (ZcH q)=0:=by
 rw[Zw7,Zcj hp,decide_eq_true rfl]
 exact Zcj hq
end Dv
/-
 large.Ratio: a fraction in lowest terms.
-/
namespace Go.Proofs.YtkhpbclcfldhmaaGreatDoor
open Go.Am Go.Tx Dv Go.Lib
set_option maxRecDepth 100000
abbrev QR (q:Rat):SV:=QS q.num (q.den:Int)
theorem Zo7 {n:Nat} (h:((wOf n).length:Int)=1) {x:Int} (hx:(wOf n)[(0:Int).toNat]? =some x) (h1:x=1):n=1:=by
 have hv:=Zb5 n
 obtain⟨w,hw⟩: ∃w,wOf n=w:=⟨_,rfl⟩
 rw[hw]at h hx hv
 match w,h,hx,hv with
 | [y],_,hx,hv=>
  have hy:y=x:=by simpa using hx
  rw[hy,h1]at hv
  simp only[wv]at hv
  omega
 | [],h,_,_=>simp at h
 |_::_::_,h,_,_=>simp only[List.length_cons]at h;omega
theorem Zez {n d:Int} (hd:0<d):(Rat.divInt n d).num=n/(Int.gcd n d:Int)∧((Rat.divInt n d).den:Int)=d/(Int.gcd n d:Int):=by
 rw[Rat.num_divInt,Rat.den_divInt,Int.sign_eq_one_of_pos hd,if_neg (by omega),Int.one_mul,Int.gcd_comm d n,Int.natCast_ediv,Int.natAbs_of_nonneg (by omega)]
 exact⟨rfl,rfl⟩
theorem Zqc (n:Int) {d:Int} (h:d.natAbs=1) (hd:0<d):QR (Rat.divInt n d)=QS n d:=by
 have:d=1:=by omega
 subst this
 obtain⟨h1,h2⟩:=Zez (n:=n) (d:=1) (by decide)
 rw[Int.gcd_one,Int.natCast_one,Int.ediv_one]at h1 h2
 show QS _ _=_
 rw[h1,h2]
theorem ZqC (n:Int) {d:Int} (h:(Int.gcd n d:Int).natAbs=1) (hd:0<d):QR (Rat.divInt n d)=QS n d:=by
 obtain⟨h1,h2⟩:=Zez (n:=n) hd
 have hg:(Int.gcd n d:Int)=1:=by omega
 rw[hg,Int.ediv_one]at h1 h2
 show QS _ _=_
 rw[h1,h2]
theorem ZrT {n g:Int} (hg:0<g) (hdv:g∣n):(match decide (n<0)with|true=>decide ((0:Int)<((wOf ((n.natAbs:Int)/g).natAbs).length:Int))|false=>false)=decide (n/g<0)∧((n.natAbs:Int)/g).natAbs=(n/g).natAbs:=by
 obtain⟨k,rfl⟩:=hdv
 rw[Int.mul_ediv_cancel_left _ (by omega),Int.natAbs_mul,Int.natCast_mul,Int.natAbs_of_nonneg (by omega),Int.mul_ediv_cancel_left _ (by omega),Int.natAbs_natCast]
 refine⟨?_,rfl⟩
 by_cases hk:k<0
 ·rw[decide_eq_true (Int.mul_neg_of_pos_of_neg hg hk),decide_eq_true hk]
  refine decide_eq_true ?_
  have:wOf k.natAbs≠ []:=by rw[ne_eq,Zek];omega
  have:=List.length_pos_iff.2 this
  omega
 ·rw[decide_eq_false (by have:=Int.mul_nonneg (a:=g) (b:=k) (by omega) (by omega);omega),decide_eq_false hk]
def ZzJ (m:Bool) (n d:Int) (z:List SV):List SM:=[.cell [.v .b m,Za8 (wOf n.natAbs)] true, .cell [.v .b (decide (d<0)),Za8 (wOf d.natAbs)] true, .cell z true]
def ZyI (m:Bool) (n d g:Int) (z:List SV):List SM:=[.cell [.v .b m,Za8 (wOf n.natAbs)] true, .cell [.v .b (decide (d<0)),Za8 (wOf d.natAbs)] true, .cell z true, .cell [.v .b (decide (g<0)),Za8 (wOf g.natAbs)] true]
def Zw6:List SV:=[.v .b false, .nils, .v .b false, .nils]
set_option maxHeartbeats 8000000 in
theorem Zka (n d:Int) (hd0:d≠0) (hln:ln n≤700000) (hld:ln d≤700000):PureOK Tryz.prog Zao 43 [IS n,IS d] (fun V=>V=QR (Rat.divInt n d)):=by
 refine Zae Zah Tryz.func43 ?_
 refine And.intro rfl ?_
 refine And.intro (fun h=> ?_) (fun h=> ?_)
 have hneg:d<0:=of_decide_eq_true h
 obtain⟨n',hn'⟩: ∃n',-n=n':=⟨_,rfl⟩
 obtain⟨d',hd'⟩: ∃d',-d=d':=⟨_,rfl⟩
 have hN:=Zt2 n (by omega)
 have hD:=Zt2 d (by omega)
 rw[hn']at hN
 rw[hd']at hD
 have hq:Rat.divInt n d=Rat.divInt n' d':=by rw[←hn',←hd',Rat.neg_divInt_neg]
 have hd:0<d':=by omega
 have hln':ln n'≤700000:=by rw[←hn',ZoE];exact hln
 have hld':ln d'≤700000:=by rw[←hd',ZoE];exact hld
 refine And.intro rfl ?_
 refine hN.mono ?_
 rintro _ rfl
 refine And.intro rfl ?_
 refine hD.mono ?_
 rintro _ rfl
 refine And.intro rfl ?_
 refine And.intro rfl ?_
 refine Zis (ZzJ (decide (n'<0)) n' d' Zw6) rfl ?_
 rotate_left 1
 obtain⟨n',hn'⟩: ∃n',n'=n:=⟨_,rfl⟩
 obtain⟨d',hd'⟩: ∃d',d'=d:=⟨_,rfl⟩
 have hq:Rat.divInt n d=Rat.divInt n' d':=by rw[hn',hd']
 have hd:0<d':=by
  have:=of_decide_eq_false h
  omega
 have hln':ln n'≤700000:=by rw[hn'];exact hln
 have hld':ln d'≤700000:=by rw[hd'];exact hld
 subst hn' hd'
 refine Zis (ZzJ (decide (n'<0)) n' d' Zw6) rfl ?_
 all_goals
  rw[hq]
  have hG:=Zxi n' d' hln' hld'
  obtain⟨g,hg⟩: ∃g:Int,(Int.gcd n' d':Int)=g:=⟨_,rfl⟩
  have hg0:0<g:=by
   have:0<Int.gcd n' d':=Int.gcd_pos_of_ne_zero_right _ (by omega)
   omega
  have hlg:ln g≤700000:=by
   refine Nat.le_trans (Znn (b:=d') ?_) hld'
   have:Int.gcd n' d'∣d'.natAbs:=Int.gcd_dvd_natAbs_right _ _
   have:=Nat.le_of_dvd (by omega) this
   omega
  have hdn:g∣n':=by rw[←hg];exact Int.gcd_dvd_left _ _
  obtain⟨q1,q2⟩:=Zez (n:=n') hd
  have hone:=ZqC n' (d:=d')
  rw[hg]at hG q1 q2 hone
  have hA:=Zo3 (n'.natAbs:Int) g hg0 (by rw[ln,Int.natAbs_natCast];exact hln') hlg
  rw[ZoL]at hA
  have hB:=Zo3 d' g hg0 hld' hlg
  obtain⟨s1,s2⟩:=ZrT (n:=n') hg0 hdn
  obtain⟨A,eA⟩: ∃A,(n'.natAbs:Int)/g=A:=⟨_,rfl⟩
  obtain⟨Ar,eAr⟩: ∃A,(n'.natAbs:Int) % g=A:=⟨_,rfl⟩
  obtain⟨B,eB⟩: ∃A,d'/g=A:=⟨_,rfl⟩
  obtain⟨Br,eBr⟩: ∃A,d' % g=A:=⟨_,rfl⟩
  rw[eA,eAr]at hA
  rw[eB,eBr]at hB
  rw[eA]at s1 s2
  rw[eB]at q2
  first|refine ZaX (ZaW rfl ?_)|refine ZaX (ZaX (ZaW rfl ?_))
  refine Zab ?_
  refine Zak rfl (fun _=>rfl) rfl rfl rfl ?_
  iterate 3 refine Zab ?_
  refine @Classical.byCases (decide (((wOf d'.natAbs).length:Int)=1)=true) _ (fun hl=> ?_) (fun hl=> ?_)
  obtain⟨y,hy⟩: ∃y,(wOf d'.natAbs)[(0:Int).toNat]? =some y:=⟨_,List.getElem?_eq_getElem (by have:=of_decide_eq_true hl;show 0<_;omega)⟩
  refine Zac hl ?_
  refine Zam rfl rfl rfl hl (fun _=>rfl) rfl rfl rfl ?_
  refine Zmz rfl rfl rfl hl (fun _=>rfl) (Int.le_refl 0) hy rfl rfl ?_
  iterate 2 refine Zac hl ?_
  refine ZaK hl ?_
  refine ZbW ?_
  refine And.intro (fun h=> ?_) (fun _=> ?_)
  ·have e:=Zqc n' (Zo7 (of_decide_eq_true hl) hy (of_decide_eq_true h)) hd
   refine And.intro rfl ?_
   refine And.intro rfl ?_
   refine And.intro rfl ?_
   refine And.intro rfl ?_
   rw[e]
   rfl
  rotate_left 1
  have hl:decide (((wOf d'.natAbs).length:Int)=1)=false:=by simpa using hl
  iterate 5 refine Zap hl ?_
  refine Zat hl ?_
  refine ZbW ?_
  refine brF rfl ?_
  all_goals
   clear hl
   refine And.intro rfl ?_
   refine And.intro rfl ?_
   refine hG.mono ?_
   rintro _ rfl
   refine And.intro rfl ?_
   refine Zis (ZyI (decide (n'<0)) n' d' g Zw6) rfl ?_
   first|refine ZaX (ZaW rfl ?_)|refine ZaX (ZaX (ZaW rfl ?_))
   refine Zab ?_
   refine Zak rfl (fun _=>rfl) rfl rfl rfl ?_
   iterate 3 refine Zab ?_
   refine @Classical.byCases (decide (((wOf g.natAbs).length:Int)=1)=true) _ (fun hl=> ?_) (fun hl=> ?_)
   obtain⟨y,hy⟩: ∃y,(wOf g.natAbs)[(0:Int).toNat]? =some y:=⟨_,List.getElem?_eq_getElem (by have:=of_decide_eq_true hl;show 0<_;omega)⟩
   refine Zac hl ?_
   refine Zam rfl rfl rfl hl (fun _=>rfl) rfl rfl rfl ?_
   refine Zmz rfl rfl rfl hl (fun _=>rfl) (Int.le_refl 0) hy rfl rfl ?_
   iterate 2 refine Zac hl ?_
   refine ZaK hl ?_
   refine ZbW ?_
   refine And.intro (fun h=> ?_) (fun _=> ?_)
   ·have e:=hone (Zo7 (of_decide_eq_true hl) hy (of_decide_eq_true h)) hd
    refine And.intro rfl ?_
    refine And.intro rfl ?_
    refine And.intro rfl ?_
    refine And.intro rfl ?_
    rw[e]
    rfl
   rotate_left 1
   have hl:decide (((wOf g.natAbs).length:Int)=1)=false:=by simpa using hl
   iterate 5 refine Zap hl ?_
   refine Zat hl ?_
   refine ZbW ?_
   refine brF rfl ?_
   all_goals
    clear hl
    refine And.intro rfl ?_
    refine And.intro rfl ?_
    refine Zis (ZyI false n' d' g Zw6) rfl ?_
    refine And.intro rfl ?_
    refine And.intro rfl ?_
    refine hA.mono ?_
    rintro _ rfl
    refine And.intro rfl ?_
    refine Zis (ZyI (decide (A<0)) A d' g Zw6) rfl ?_
    refine And.intro rfl ?_
    refine And.intro rfl ?_
    refine hB.mono ?_
    rintro _ rfl
    refine And.intro rfl ?_
    refine Zis (ZyI (decide (A<0)) A B g Zw6) rfl ?_
    first|refine ZaX (ZaW rfl ?_)|refine ZaX (ZaX (ZaW rfl ?_))
    iterate 2 refine Zab ?_
    obtain⟨m,hm⟩: ∃m,decide (n'<0)=m:=⟨_,rfl⟩
    rw[hm]at s1
    cases m with
    |true=>
     refine Zac hm ?_
     refine Zam rfl rfl rfl hm (fun _=>rfl) rfl rfl rfl ?_
     iterate 2 refine Zac hm ?_
     refine ZaK hm ?_
     refine Zab ?_
     refine Zad rfl (And.intro rfl ?_)
     refine And.intro rfl ?_
     refine And.intro rfl ?_
     refine And.intro rfl ?_
     refine And.intro rfl ?_
     show SV.agg [.v .b (decide ((0:Int)<((wOf A.natAbs).length:Int))),Za8 (wOf A.natAbs), .v .b (decide (B<0)),Za8 (wOf B.natAbs)]=QS _ _
     simp only at s1
     rw[s2]at s1
     rw[q1,q2,s2,s1]
    |false=>
     iterate 4 refine Zap hm ?_
     refine Zat hm ?_
     refine Zab ?_
     refine Zad rfl (And.intro rfl ?_)
     refine And.intro rfl ?_
     refine And.intro rfl ?_
     refine And.intro rfl ?_
     refine And.intro rfl ?_
     show SV.agg [.v .b false,Za8 (wOf A.natAbs), .v .b (decide (B<0)),Za8 (wOf B.natAbs)]=QS _ _
     simp only at s1
     rw[q1,q2,s2]
     show SV.agg [.v .b false,Za8 (wOf (n'/g).natAbs), .v .b (decide (B<0)),Za8 (wOf B.natAbs)]=SV.agg [.v .b (decide (n'/g<0)),Za8 (wOf (n'/g).natAbs), .v .b (decide (B<0)),Za8 (wOf B.natAbs)]
     rw[←s1]
end Go.Proofs.YtkhpbclcfldhmaaGreatDoor
