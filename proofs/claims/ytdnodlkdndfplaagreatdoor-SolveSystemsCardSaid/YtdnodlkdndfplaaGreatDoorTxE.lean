/-
 Rows of own rows: a matrix behind the first rows of a heap; operations whose place is known by an equation; regions with light operations, one at a time.
-/
import Derived.Test.YtdnodlkdndfplaaGreatDoorTxB
set_option linter.constructorNameAsVariable false
set_option linter.unusedSimpArgs false
set_option linter.unusedVariables false
namespace Go.Tx
open Go.Am
section
variable {P : Program} {h : Hints} {T : TypeId → TI} {hp : List SM} {tm : TM}
theorem Zdh: ∀e:CT,ceq e e=true
 | .i k=>by cases k<;>rfl
 | .b=>rfl
 | .s=>rfl
 | .l e=>Zdh e
 | .p a b=>by simp only[ceq,Zdh a,Zdh b,Bool.and_true]
def ZaM {α:Type}:Nat→List (List α)→List SV
 |_,[]=> []
 |p,x::r=> .ref p 0 x.length none::ZaM (p+1) r
def Za8 (ct:CT) (xs:List (List ct.D)):List SM:=xs.map fun x=> .row ct x true
theorem ZaF {α:Type}: ∀ (p:Nat) (xs:List (List α)),(ZaM p xs).length=xs.length
 |_,[]=>rfl
 |p,x::r=>by rw[ZaM,List.length_cons,ZaF,List.length_cons]
theorem ZdL {α:Type}: ∀ {p:Nat} {xs:List (List α)} {i:Nat} (hi:i<xs.length),(ZaM p xs)[i]? =some (.ref (i+p) 0 xs[i].length none)
 |p,x::r,0,_=>by rw[Nat.zero_add];rfl
 |p,x::r,i+1,hi=>by
  have:=ZdL (p:=p+1) (xs:=r) (i:=i) (Nat.lt_of_succ_lt_succ hi)
  rw[ZaM,List.getElem?_cons_succ,this]
  simp only[List.getElem_cons_succ,Option.some.injEq,SV.ref.injEq,and_true]
  omega
theorem Zaw {ct:CT} (xs:List (List ct.D)):(Za8 ct xs).length=xs.length:=List.length_map _
theorem ZeJ {ct:CT} {xs:List (List ct.D)} {i:Nat} (hi:i<xs.length):(Za8 ct xs)[i]? =some (.row ct xs[i] true):=by
 rw[Za8,List.getElem?_map,List.getElem?_eq_getElem hi]
 rfl
theorem ZmN {ct:CT} {xs:List (List ct.D)} {i:Nat} {y:List ct.D}:(Za8 ct xs).set i (.row ct y true)=Za8 ct (xs.set i y):=by rw[Za8,Za8,List.map_set]
theorem Zsu {A:SM} {fr ex:List SM} {ct:CT} {xs:List (List ct.D)} {i p:Nat} (hi:i<xs.length) (hq:p=fr.length+1):nth (A::(fr++(Za8 ct xs++ex))) (i+p)=some (.row ct xs[i] true):=by
 rw[ZaT,hq,show i+(fr.length+1)=(fr.length+i)+1 by omega,List.getElem?_cons_succ,List.getElem?_append_right (by omega),Nat.add_sub_cancel_left,List.getElem?_append_left (by rw[Zaw];exact hi),ZeJ hi]
theorem ZzR {A:SM} {fr ex:List SM} {ct:CT} {xs:List (List ct.D)} {j n:Nat} (hn:n=fr.length+1+xs.length+j):nth (A::(fr++(Za8 ct xs++ex))) n=ex[j]? :=by
 rw[ZaT,hn,show fr.length+1+xs.length+j=(fr.length+(xs.length+j))+1 by omega,List.getElem?_cons_succ,List.getElem?_append_right (by omega),Nat.add_sub_cancel_left,List.getElem?_append_right (by rw[Zaw];omega),Zaw,Nat.add_sub_cancel_left]
theorem Zy5 {A:SM} {fr ex:List SM} {ct:CT} {xs:List (List ct.D)} {i p:Nat} {x:SM} (hi:i<xs.length) (hq:p=fr.length+1):(A::(fr++(Za8 ct xs++ex))).set (i+p) x=A::(fr++((Za8 ct xs).set i x++ex)):=by
 rw[hq,show i+(fr.length+1)=(fr.length+i)+1 by omega,List.set_cons_succ,List.set_append_right _ _ (by omega),Nat.add_sub_cancel_left,List.set_append_left _ _ (by rw[Zaw];exact hi)]
theorem Zz8 {A:SM} {fr ex:List SM} {ct:CT} {xs:List (List ct.D)} {j n:Nat} {x:SM} (hn:n=fr.length+1+xs.length+j):(A::(fr++(Za8 ct xs++ex))).set n x=A::(fr++(Za8 ct xs++ex.set j x)):=by
 rw[hn,show fr.length+1+xs.length+j=(fr.length+(xs.length+j))+1 by omega,List.set_cons_succ,List.set_append_right _ _ (by omega),Nat.add_sub_cancel_left,List.set_append_right _ _ (by rw[Zaw];omega),Zaw,Nat.add_sub_cancel_left]
theorem Zsk {A:SM} {fr ex:List SM} {ct:CT} {xs:List (List ct.D)}:(A::(fr++(Za8 ct xs++ex))).length=fr.length+1+xs.length+ex.length:=by
 rw[List.length_cons,List.length_append,List.length_append,Zaw];omega
theorem Zy6 {A:SM} {fr ex:List SM} {ct:CT} {xs:List (List ct.D)} {x:SM}:(A::(fr++(Za8 ct xs++ex)))++ [x]=A::(fr++(Za8 ct xs++(ex++ [x]))):=by
 rw[List.cons_append,List.append_assoc,List.append_assoc]
def ZcW:TK→Bool
 | .other=>true
 |_=>false
theorem Zn7 {t:TypeId} {id i r:Nat} {x:SV} {cs:List SV} {k:SV→List SM→Prop} (hn:nth hp id=some (.cell cs true)) (h1:(Zbp x&&Nat.beq (Zbe x).length (T t).sz)=true) (h2:Nat.ble (r+(T t).sz) cs.length=true) (h3:ZcW (T t).k=false) (hi:i=0) (hk:k (.tup []) (hp.set id (.cell (spl cs r (Zbe x)) true))):ZhC T t hp (.ptr id i r) x k:=by
 simp only[ZhC,h1,hn]
 refine⟨hi, ?_⟩
 rw[h2]
 split
 ·rename_i h4;rw[h4]at h3;cases h3
 ·exact hk
 ·rename_i h4;exact(h4 rfl).elim
theorem ZqR {t:TypeId} {id i r:Nat} {cs:List SV} {V:SV} {m:Bool} {k:SV→Prop} (hn:nth hp id=some (.cell cs m)) (h1:Zgy (T t) cs r=some V) (hi:i=0) (hk:k V):Zli T t hp (.ptr id i r) k:=by
 simp only[Zli,hn]
 exact⟨hi,by rw[h1];exact hk⟩
theorem Zte {t:TypeId} {id i r:Nat} {ct:CT} {l:List ct.D} {x:ct.D} {V:SV} {m:Bool} {k:SV→Prop} (hn:nth hp id=some (.row ct l m)) (hx:l[i]? =some x) (h1:Zgy (T t) (ZcZ ct x) r=some V) (hk:k V):Zli T t hp (.ptr id i r) k:=by
 simp only[Zli,hn]
 exact⟨x,hx,by rw[h1];exact hk⟩
theorem Zrg {t:TypeId} {id i r:Nat} {x:SV} {ct:CT} {l:List ct.D} {y z:ct.D} {k:SV→List SM→Prop} (hn:nth hp id=some (.row ct l true)) (h1:(Zbp x&&Nat.beq (Zbe x).length (T t).sz)=true) (hy:l[i]? =some y) (h2:Nat.ble (r+(T t).sz) ct.w=true) (h3:ZcW (T t).k=false) (h4:Zcc ct (spl (ZcZ ct y) r (Zbe x))=some z) (hk:k (.tup []) (hp.set id (.row ct (l.set i z) true))):ZhC T t hp (.ptr id i r) x k:=by
 simp only[ZhC,h1,hn]
 refine⟨y,hy, ?_⟩
 rw[h2,h4]
 generalize(T t).k=kk at*
 cases kk<;>first|(cases h3;done)|exact hk
theorem ZxY {z id i n:Nat} {m:Option Nat} {j:Int} {ct:CT} {l:List ct.D} {b:Bool} {k:SV→Prop} (hn:nth hp id=some (.row ct l b)) (hz:Nat.beq ct.w z=true) (hj:0≤j∧j<n) (hk:k (.ptr id (i+j.toNat) 0)):ixT z hp (.ref id i n m) j k:=by
 simp only[ixT,hn]
 rw[hz]
 exact⟨hj,hk⟩
theorem Zgw {ct:CT} {id i n:Nat} {m:Option Nat} {l:List ct.D} {b:Bool} {k:List ct.D→Prop} (hn:nth hp id=some (.row ct l b)) (hl:i+n≤l.length) (hk:k (sub l i n)):Zp0 ct hp (.ref id i n m) k:=by
 simp only[Zp0,hn]
 rw[dif_pos (Zdh ct)]
 exact⟨hl,hk⟩
theorem Zlb {ct:CT} {by_ id i n:Nat} {l:List ct.D} {x:ct.D} {r:List ct.D} {k:SV→List SM→Prop} (hn:nth hp id=some (.row ct l true)) (hl:i+n≤l.length) (hz:(n+(r.length+1))*by_≤140737488355328) (hk:k (.ref hp.length 0 (n+(r.length+1)) none) (hp.set id .dead++ [.row ct (sub l i n++x::r) true])):ZrI ct by_ hp (.ref id i n none) (x::r) k:=by
 simp only[ZrI,hn]
 rw[dif_pos (Zdh ct)]
 exact⟨hl,hz,hk⟩
theorem Zmf {op:Op} {t:TypeId} {id i r:Nat} {x:SV} {cs:List SV} {k:SV→List SM→Prop} {a b:Operand} (ho:op= .store t a b) (ha:evS tm a=some (.ptr id i r)) (hb:evS tm b=some x) (hn:nth hp id=some (.cell cs true)) (h1:(Zbp x&&Nat.beq (Zbe x).length (T t).sz)=true) (h2:Nat.ble (r+(T t).sz) cs.length=true) (h3:ZcW (T t).k=false) (hi:i=0) (hk:k (.tup []) (hp.set id (.cell (spl cs r (Zbe x)) true))):opT P h T op tm hp k:=by
 simp only[ho,opT,ha,hb]
 exact Zn7 hn h1 h2 h3 hi hk
theorem Zl3 {op:Op} {t:TypeId} {id i r:Nat} {cs:List SV} {V:SV} {m:Bool} {k:SV→List SM→Prop} {a:Operand} (ho:op= .load t a) (ha:evS tm a=some (.ptr id i r)) (hn:nth hp id=some (.cell cs m)) (h1:Zgy (T t) cs r=some V) (hi:i=0) (hk:k V hp):opT P h T op tm hp k:=by
 simp only[ho,opT,ha]
 exact ZqR hn h1 hi hk
theorem Zca {op:Op} {t:TypeId} {id i r:Nat} {ct:CT} {l:List ct.D} {x:ct.D} {V:SV} {m:Bool} {k:SV→List SM→Prop} {a:Operand} (ho:op= .load t a) (ha:evS tm a=some (.ptr id i r)) (hn:nth hp id=some (.row ct l m)) (hx:l[i]? =some x) (h1:Zgy (T t) (ZcZ ct x) r=some V) (hk:k V hp):opT P h T op tm hp k:=by
 simp only[ho,opT,ha]
 exact Zte hn hx h1 hk
theorem Zh1 {op:Op} {t:TypeId} {id i r:Nat} {x:SV} {ct:CT} {l:List ct.D} {y z:ct.D} {k:SV→List SM→Prop} {a b:Operand} (ho:op= .store t a b) (ha:evS tm a=some (.ptr id i r)) (hb:evS tm b=some x) (hn:nth hp id=some (.row ct l true)) (h1:(Zbp x&&Nat.beq (Zbe x).length (T t).sz)=true) (hy:l[i]? =some y) (h2:Nat.ble (r+(T t).sz) ct.w=true) (h3:ZcW (T t).k=false) (h4:Zcc ct (spl (ZcZ ct y) r (Zbe x))=some z) (hk:k (.tup []) (hp.set id (.row ct (l.set i z) true))):opT P h T op tm hp k:=by
 simp only[ho,opT,ha,hb]
 exact Zrg hn h1 hy h2 h3 h4 hk
variable {F N : Nat} {ls : List Nat} {o : Oper} {l : List Oper} {i dd : Nat} {ks : List (Nat × Nat × Bool)} {kk : TM → List SM → Prop} {V : SV}
theorem ZgM {c:Cx} {id j:Nat} {js:List Nat} {ops:Array Oper} {dr:Bool} {k:Ex→TM→List SM→Prop} (hl:h.light c.fid id=j::js) (hg:noG ops.toList=true) (hk:ZaG P h T c.N (j::js) ops.toList 0 [] tm hp fun tm' hp'=>k .normal tm' hp') (hπ:h.perm c.fid id=[]:=by rfl):wp P h T F c (.region id ops dr) tm hp k:=by
 simp only[wp,wpR,hπ,hl,hg]
 exact hk
theorem Zhc {c:Cx} {id i j:Nat} {r js:List Nat} {ops:Array Oper} {os:List Oper} {dr:Bool} {k:Ex→TM→List SM→Prop} (hπ:h.perm c.fid id=i::r) (hl:h.light c.fid id=j::js) (ho:Zhh (i::r) ops (i::r)=os) (hg:noG os=true) (hk:ZaG P h T c.N (j::js) os 0 [] tm hp fun tm' hp'=>k .normal tm' hp'):wp P h T F c (.region id ops dr) tm hp k:=by
 have e:(rgo (i::r) ops).toList=os:=ho
 simp only[wp,wpR,hπ,hl,e,hg]
 exact hk
theorem ZxH (hk:kk tm hp):ZaG P h T N ls [] i ks tm hp kk:=hk
theorem Zb3 {x:Operand} (hi:has i ls=true) (ho:o.op= .move x) (hx:evS tm x=some V) (hd:o.dst=some dd) (hN:Nat.ble (dd+1) N=true) (hk:ZaG P h T N ls l (i+1) ks ((dd,V)::tm) hp kk):ZaG P h T N ls (o::l) i ks tm hp kk:=by
 simp only[ZaG,hi,ho,opT,hx,ZcS,hd,hN]
 exact hk
theorem ZAj {t:TypeId} {x y:Operand} {id a n:Nat} {m:Option Nat} {C:Prop} (hi:has i ls=true) (ho:o.op= .indexAddr t x y) (hx:evS tm x=some (.ref id a n m)) (he: ∀k,opT P h T (.indexAddr t x y) tm hp k=(C∧k V hp)) (hc:C) (hd:o.dst=some dd) (hN:Nat.ble (dd+1) N=true) (hk:ZaG P h T N ls l (i+1) ((i,id,false)::ks) ((dd,V)::tm) hp kk):ZaG P h T N ls (o::l) i ks tm hp kk:=by
 simp only[ZaG,hi,ho,hx,he,ZcS,hd,hN]
 exact⟨hc,hk⟩
theorem ZAD {t:TypeId} {x:Operand} {id a r:Nat} {α:Type} {C:α→Prop} {W:α→SV} {z:α} (hi:has i ls=true) (ho:o.op= .load t x) (hx:evS tm x=some (.ptr id a r)) (he: ∀k,opT P h T (.load t x) tm hp k= ∃z,C z∧k (W z) hp) (hc:C z) (hd:o.dst=some dd) (hN:Nat.ble (dd+1) N=true) (hk:ZaG P h T N ls l (i+1) ((i,id,true)::ks) ((dd,W z)::tm) hp kk):ZaG P h T N ls (o::l) i ks tm hp kk:=by
 simp only[ZaG,hi,ho,hx,he,ZcS,hd,hN]
 exact⟨z,hc,hk⟩
theorem Zbw (hi:has i ls=false) (hw:isW h o=false) (ho:opT P h T o.op tm hp fun V hp'=>ZcS N o.dst V tm fun tm'=>ZaG P h T N ls l (i+1) ks tm' hp' kk):ZaG P h T N ls (o::l) i ks tm hp kk:=by
 simp only[ZaG,hi,Zn3,hw]
 split
 ·exact ho
 ·exact ho
theorem Zju (hi:has i ls=false) (hd:Zn3 h o ks=[]) (ho:opT P h T o.op tm hp fun V hp'=>ZcS N o.dst V tm fun tm'=>ZaG P h T N ls l (i+1) [] tm' hp' kk):ZaG P h T N ls (o::l) i ks tm hp kk:=by
 simp only[ZaG,hi,hd]
 exact ho
theorem Zbx {c:TM→Prop} {dst:Option Tmp} (ho:dst=some dd) (hN:Nat.ble (dd+1) N=true) (hk:c ((dd,V)::tm)):ZcS N dst V tm c:=by
 simp only[ZcS,ho,hN]
 exact hk
theorem Zcb {c:TM→Prop} {dst:Option Tmp} (ho:dst=none) (hk:c tm):ZcS N dst V tm c:=by
 simp only[ZcS,ho]
 exact hk
variable {op : Op} {dst : Option Tmp} {c : TM → List SM → Prop}
theorem opv (he: ∀k,opT P h T op tm hp k=k V hp) (ho:dst=some dd) (hN:Nat.ble (dd+1) N=true) (hk:c ((dd,V)::tm) hp):opT P h T op tm hp fun V hp'=>ZcS N dst V tm fun tm'=>c tm' hp':=by
 rw[he]
 simp only[ZcS,ho,hN]
 exact hk
theorem opm {hp':List SM} (he: ∀k,opT P h T op tm hp k=k V hp') (ho:dst=some dd) (hN:Nat.ble (dd+1) N=true) (hk:c ((dd,V)::tm) hp'):opT P h T op tm hp fun V hp'=>ZcS N dst V tm fun tm'=>c tm' hp':=by
 rw[he]
 simp only[ZcS,ho,hN]
 exact hk
theorem Zss {ds:List (Option Tmp)} {hp':List SM} (e:hp=hp') (hk:wpOps P h T N ds l tm hp' kk):wpOps P h T N ds l tm hp kk:=e▸hk
def Zu6 (p:Nat):List Nat→Bool
 | []=>true
 |i::r=>Nat.ble (i+1) p&&Zu6 p r
theorem Zjo {p id:Nat}: ∀ {l:List Nat},Zu6 p l=true→id∈l→id<p
 |i::r,h,hm=>by
  simp only[Zu6,Bool.and_eq_true]at h
  rcases List.mem_cons.1 hm with rfl|hm
  ·exact Nat.le_of_ble_eq_true h.1
  ·exact Zjo h.2 hm
def ZvS (p:Nat) (tm:TM):TM→Prop
 | []=>True
 |(i,V')::r=>Zbj i tm=some V'∧Zu6 p (Zen V')=true∧ZvS p tm r
mutual
theorem Zxd {f:Nat→Nat} {p:Nat} (hf: ∀j,j<p→f j=j): ∀V:SV,(∀id∈Zen V,id<p)→rnV f V=V
 | .ref id i n m,hb=>by rw[rnV,hf id (hb id (by simp[Zen]))]
 | .ptr id i r,hb=>by rw[rnV,hf id (hb id (by simp[Zen]))]
 | .func g a c,hb=>by
  simp only[Zen,List.mem_append]at hb
  rw[rnV,rnL_id hf a (fun id hi=>hb id (.inl hi)),rnL_id hf c (fun id hi=>hb id (.inr hi))]
 | .agg cs,hb=>by rw[rnV,rnL_id hf cs (by simpa only[Zen]using hb)]
 | .tup cs,hb=>by rw[rnV,rnL_id hf cs (by simpa only[Zen]using hb)]
 | .v _ _,_| .nilp,_| .nils,_| .nilf,_| .nili,_| .box _ _ _,_=>rfl
theorem rnL_id {f:Nat→Nat} {p:Nat} (hf: ∀j,j<p→f j=j): ∀l:List SV,(∀id∈rchL l,id<p)→rnL f l=l
 | [],_=>rfl
 |V::r,hb=>by
  simp only[rchL,List.mem_append]at hb
  rw[rnL,Zxd hf V (fun id hi=>hb id (.inl hi)),rnL_id hf r (fun id hi=>hb id (.inr hi))]
end
theorem Zke {f:Nat→Nat} {p:Nat} (hf: ∀j,j<p→f j=j) (m:SM) (hb: ∀id∈Zg2 m,id<p):rnM f m=m:=by
 cases m with
 |row t l b=>rfl
 |cell cs b=>rw[rnM,rnL_id hf cs (by simpa only[Zg2]using hb)]
 |many ct els b=>rw[rnM,rnL_id hf els (by simpa only[Zg2]using hb)]
 |dead=>rfl
theorem ZiN {f:Nat→Nat} {p n:Nat} (hf: ∀j,j<p→f j=j) (hn:p≤n) {tm:TM}: ∀ {tm':TM},ZvS p tm tm'→Zw6 f n tm tm'
 | [],_=>trivial
 |(i,V')::r,⟨h1,h2,h3⟩=>⟨by rw[Zxd hf V' fun id hi=>Zjo h2 hi];exact h1,fun id hi=>Nat.lt_of_lt_of_le (Zjo h2 hi) hn,ZiN hf hn h3⟩
theorem Zox (f:Nat→Nat): ∀l:List SV,rnL f l=l.map (rnV f)
 | []=>rfl
 |v::r=>by rw[rnL,Zox f r];rfl
theorem ZfU {α:Type} {id:Nat}: ∀ {p:Nat} {xs:List (List α)},id∈rchL (ZaM p xs)→id<p+xs.length
 |p,x::r,hm=>by
  simp only[ZaM,rchL,Zen,List.mem_append,List.mem_singleton]at hm
  rw[List.length_cons]
  rcases hm with rfl|hm
  ·omega
  ·have:=ZfU (p:=p+1) (xs:=r) hm
   omega
theorem ZuV {α:Type} {f:Nat→Nat} {p i L:Nat} {xs:List (List α)} {y:List α} (hfi:f (i+p)=L) (hf: ∀j,j≠i→j<xs.length→f (j+p)=j+p):rnL f (ZaM p (xs.set i y))=(ZaM p xs).set i (.ref L 0 y.length none):=by
 rw[Zox]
 apply List.ext_getElem?
 intro j
 rw[List.getElem?_map]
 by_cases hj:j<xs.length
 ·rw[ZdL (by rw[List.length_set];exact hj)]
  show some (SV.ref (f (j+p)) 0 _ none)=_
  by_cases hji:j=i
  ·subst hji
   rw[List.getElem?_set_self (by rw[ZaF];exact hj),hfi,List.getElem_set_self]
  ·rw[List.getElem?_set_ne (fun e=>hji e.symm),ZdL hj,hf j hji hj]
   have e:(xs.set i y)[j]'(by rw[List.length_set];exact hj)=xs[j]:=by rw[List.getElem_set_ne (fun e=>hji e.symm)]
   rw[e]
 ·rw[List.getElem?_eq_none (by rw[ZaF,List.length_set];omega),List.getElem?_eq_none (by rw[List.length_set,ZaF];omega)]
  rfl
theorem ZxG {F:Nat} {tm tm':TM} {ct:CT} {fr ex:List SM} {xs:List (List ct.D)} {i e L p:Nat} {y:List ct.D} {d:SM} (hq:p=fr.length+1) (hi:i<xs.length) (hL:L=fr.length+1+xs.length+e) (hx:ex[e]? =some (.row ct y true)) (hF:F≤p) (hfr: ∀m∈fr,∀id∈Zg2 m,id<p) (htm:ZvS p tm tm'):
 Ent F tm (.many (.l ct) ((ZaM p xs).set i (.ref L 0 y.length none)) true::(fr++((Za8 ct xs).set i d++ex))) tm' (.many (.l ct) (ZaM p (xs.set i y)) true::(fr++(Za8 ct (xs.set i y)++ []))):=by
 have hee:e<ex.length:=(List.getElem?_eq_some_iff.1 hx).1
 have hlen:(SM.many (.l ct) (ZaM p (xs.set i y)) true::(fr++(Za8 ct (xs.set i y)++ []))).length=fr.length+1+xs.length:=by
  rw[Zsk,List.length_set];rfl
 have hlen0:(SM.many (.l ct) ((ZaM p xs).set i (.ref L 0 y.length none)) true::(fr++((Za8 ct xs).set i d++ex))).length=fr.length+1+xs.length+ex.length:=by
  rw[List.length_cons,List.length_append,List.length_append,List.length_set,Zaw];omega
 let f:Nat→Nat:=fun j=>if j=i+p then L else j
 have fi:f (i+p)=L:=if_pos rfl
 have fn: ∀j,j≠i+p→f j=j:=fun j hj=>if_neg hj
 have flt: ∀j,j<p→f j=j:=fun j hj=>fn j (by omega)
 refine Zhb f ?_ ?_ ?_ ?_ ?_ ?_
 ·rw[hlen];omega
 ·intro j hj;exact flt j (by omega)
 ·intro j hj
  rw[hlen]at hj
  rw[hlen0]
  by_cases h:j=i+p
  ·rw[h,fi];omega
  ·rw[fn j h];omega
 ·intro a b ha hb hab
  rw[hlen]at ha hb
  by_cases h1:a=i+p
  ·by_cases h2:b=i+p
   ·omega
   ·rw[h1,fi,fn b h2]at hab;omega
  ·by_cases h2:b=i+p
   ·rw[h2,fi,fn a h1]at hab;omega
   ·rw[fn a h1,fn b h2]at hab;exact hab
 ·exact ZiN flt (by rw[hlen];omega) htm
 ·intro j m hm
  right
  cases j with
  |zero=>
   have hm:some (SM.many (.l ct) (ZaM p (xs.set i y)) true)=some m:=hm
   cases hm
   refine⟨?_,fun id hid=> ?_⟩
   ·rw[flt 0 (by omega)]
    show some (SM.many (.l ct) ((ZaM p xs).set i (.ref L 0 y.length none)) true)=some (SM.many (.l ct) (rnL f (ZaM p (xs.set i y))) true)
    rw[ZuV fi fun j hj hjl=>fn (j+p) (by omega)]
   ·have:=ZfU (by simpa only[Zg2]using hid)
    rw[List.length_set]at this
    rw[hlen];omega
  |succ j=>
   rw[List.getElem?_cons_succ]at hm
   by_cases hj:j<fr.length
   ·rw[List.getElem?_append_left hj]at hm
    have hb:=hfr m (List.mem_of_getElem? hm)
    refine⟨?_,fun id hid=>by have:=hb id hid;rw[hlen];omega⟩
    rw[flt (j+1) (by omega),Zke flt m hb,List.getElem?_cons_succ,List.getElem?_append_left hj]
    exact hm
   ·rw[List.getElem?_append_right (by omega),List.append_nil]at hm
    have hjl:j-fr.length<xs.length:=by
     have:=(List.getElem?_eq_some_iff.1 hm).1
     rw[Zaw,List.length_set]at this
     exact this
    rw[ZeJ (by rw[List.length_set];exact hjl)]at hm
    cases hm
    refine⟨?_,fun id hid=>by simp[Zg2]at hid⟩
    by_cases hji:j-fr.length=i
    ·rw[show j+1=i+p by omega,fi,hL,show fr.length+1+xs.length+e=(fr.length+(xs.length+e))+1 by omega,List.getElem?_cons_succ,List.getElem?_append_right (by omega),Nat.add_sub_cancel_left,List.getElem?_append_right (by rw[List.length_set,Zaw];omega),List.length_set,Zaw,Nat.add_sub_cancel_left,hx]
     simp only[hji,List.getElem_set_self]
     rfl
    ·rw[fn (j+1) (by omega),List.getElem?_cons_succ,List.getElem?_append_right (by omega),List.getElem?_append_left (by rw[List.length_set,Zaw];exact hjl),List.getElem?_set_ne (fun e=>hji e.symm),ZeJ hjl]
     simp only[List.getElem_set_ne (fun e=>hji e.symm)]
     rfl
theorem opy {α:Type} {A:Prop} {C:α→Prop} {W:α→SV} {x:α} (he: ∀k,opT P h T op tm hp k= ∃x,A∧C x∧k (W x) hp) (ha:A) (hc:C x) (ho:dst=some dd) (hN:Nat.ble (dd+1) N=true) (hk:c ((dd,W x)::tm) hp):opT P h T op tm hp fun V hp'=>ZcS N dst V tm fun tm'=>c tm' hp':=by
 rw[he]
 simp only[ZcS,ho,hN]
 exact⟨x,ha,hc,hk⟩
theorem ZmY {t:TypeId} {x y:Operand} {ct:CT} {xs:List ct.D} {α:Type} {A:Prop} {C:α→Prop} {W:α→SV} {z:α} (hi:has i ls=true) (ho:o.op= .indexAddr t x y) (hx:evS tm x=some (.v (.l ct) xs)) (he: ∀k,opT P h T (.indexAddr t x y) tm hp k= ∃z,A∧C z∧k (W z) hp) (ha:A) (hc:C z) (hd:o.dst=some dd) (hN:Nat.ble (dd+1) N=true) (hk:ZaG P h T N ls l (i+1) ks ((dd,W z)::tm) hp kk):ZaG P h T N ls (o::l) i ks tm hp kk:=by
 simp only[ZaG,hi,ho,hx,he,ZcS,hd,hN]
 exact⟨z,ha,hc,hk⟩
theorem Zms {t:TypeId} {x:Operand} {ct:CT} {y:ct.D} {r:Nat} (hi:has i ls=true) (ho:o.op= .load t x) (hx:evS tm x=some (.box ct y r)) (he: ∀k,opT P h T (.load t x) tm hp k=k V hp) (hd:o.dst=some dd) (hN:Nat.ble (dd+1) N=true) (hk:ZaG P h T N ls l (i+1) ks ((dd,V)::tm) hp kk):ZaG P h T N ls (o::l) i ks tm hp kk:=by
 simp only[ZaG,hi,ho,hx,he,ZcS,hd,hN]
 exact hk
theorem Zwt {F:Nat} {tm tm':TM} {ct:CT} {fr:List SM} {n p:Nat} (hq:p=fr.length+1) (hF:F≤p) (htm:ZvS p tm tm'):Ent F tm (.many (.l ct) (List.replicate n .nils) true::fr) tm' (.many (.l ct) (ZaM p (List.replicate n ([]:List ct.D))) true::(fr++(Za8 ct (List.replicate n [])++ []))):=by
 refine⟨fun φ st _ hs=> ?_⟩
 have hlen:φ.length=p:=by rw[hs.hp.len,List.length_cons,hq]
 let ψ:Ph:=φ++List.replicate n none
 have hle:Le φ ψ:=Le.app _ _
 have hψ: ∀j,j<n→ψ[j+p]? =some none:=fun j hj=>by
  show(φ++List.replicate n none)[j+p]? =_
  rw[List.getElem?_append_right (by omega),hlen,Nat.add_sub_cancel,List.getElem?_replicate,if_pos hj]
 have hlt: ∀id,id<p→ψ[id]? =φ[id]? :=fun id hid=>by
  show(φ++List.replicate n none)[id]? =_
  rw[List.getElem?_append_left (by omega)]
 have hl':(SM.many (.l ct) (ZaM p (List.replicate n ([]:List ct.D))) true::(fr++(Za8 ct (List.replicate n [])++ []))).length=p+n:=by
  rw[Zsk,List.length_replicate,hq];rfl
 have sub_get: ∀ {tm':TM} {i:Nat} {V:SV},ZvS p tm tm'→Zbj i tm'=some V→Zbj i tm=some V:=by
  intro tm'
  induction tm' with
  |nil=>intro i V _ h;cases h
  |cons a r ih=>
   obtain⟨j,W⟩:=a
   rintro i V ⟨h1,_,h3⟩ h
   simp only[Zbj]at h
   cases hb:Nat.beq i j with
   |true=>rw[hb]at h;cases h;rw[Nat.eq_of_beq_eq_true hb];exact h1
   |false=>rw[hb]at h;exact ih h3 h
 refine⟨ψ,fun id hid=>hlt id (by omega), ?_,⟨by rw[hl'];show(φ++List.replicate n none).length=_;rw[List.length_append,List.length_replicate,hlen], ?_, ?_⟩⟩
 ·intro i V hi
  obtain⟨q,h1,h2⟩:=hs.tm i V (sub_get htm hi)
  exact⟨q,h1,RV.mono hle V q h2⟩
 ·intro id sm o hsm ho
  cases id with
  |zero=>
   have hsm:some (SM.many (.l ct) (ZaM p (List.replicate n ([]:List ct.D))) true)=some sm:=hsm
   cases hsm
   rw[hlt 0 (by omega)]at ho
   have hm:=hs.hp.row 0 _ o rfl ho
   cases o with
   |none=>
    simp only[RM]at hm⊢
    cases n with
    |zero=>rfl
    |succ n=>cases hm
   |some a=>
    simp only[RM]at hm⊢
    obtain⟨es,m',g1,g2,g3⟩:=hm
    refine⟨es,m',g1, ?_,g3⟩
    have gen: ∀ (k j:Nat) (es:List (List PV)),j+k≤n→All2 (fun V c=> ∃q,c=[q]∧RV φ V q) (List.replicate k SV.nils) es→All2 (fun V c=> ∃q,c=[q]∧RV ψ V q) (ZaM (p+j) (List.replicate k ([]:List ct.D))) es:=by
     intro k
     induction k with
     |zero=>
      intro j es _ h
      cases es with
      |nil=>exact trivial
      |cons _ _=>exact h.elim
     |succ k ih=>
      intro j es hjk h
      cases es with
      |nil=>exact h.elim
      |cons c es=>
       obtain⟨⟨q,e1,e2⟩,h2⟩:=h
       refine⟨⟨q,e1, ?_⟩, ?_⟩
       ·simp only[RV]at e2⊢
        right
        refine⟨?_,e2,trivial,rfl,rfl⟩
        rw[Nat.add_comm]
        exact hψ j (by omega)
       ·have:=ih (j+1) es (by omega) h2
        rw[←Nat.add_assoc]at this
        exact this
    have:=gen n 0 es (by omega) g2
    rwa[Nat.add_zero]at this
  |succ id=>
   rw[List.getElem?_cons_succ]at hsm
   by_cases hid:id<fr.length
   ·rw[List.getElem?_append_left hid]at hsm
    rw[hlt (id+1) (by omega)]at ho
    exact RM.mono hle (fun _ _ _=>rfl) (hs.hp.row (id+1) sm o (by rw[List.getElem?_cons_succ];exact hsm) ho)
   ·rw[List.getElem?_append_right (by omega),List.append_nil]at hsm
    have hb:=(List.getElem?_eq_some_iff.1 hsm).1
    rw[Zaw,List.length_replicate]at hb
    rw[ZeJ (by rw[List.length_replicate];exact hb),List.getElem_replicate]at hsm
    cases hsm
    rw[show id+1=(id-fr.length)+p by omega,hψ _ hb]at ho
    cases ho
    rfl
 ·intro id id' sm sm' a hne h1 h2 h3 h4 h5 h6
  have hb: ∀ {j:Nat} {sm:SM},ψ[j]? =some (some a)→j<p:=fun{j} {sm} hj=>by
   by_cases h:j<p
   ·exact h
   ·exfalso
    have hj2:(φ++List.replicate n none)[j]? =some (some a):=hj
    rw[List.getElem?_append_right (by omega),List.getElem?_replicate]at hj2
    split at hj2<;>cases hj2
  have b1:=hb (sm:=sm) h5
  have b2:=hb (sm:=sm') h6
  rw[hlt _ b1]at h5
  rw[hlt _ b2]at h6
  have old: ∀ {j:Nat} {m:SM},j<p→live m=true→(SM.many (.l ct) (ZaM p (List.replicate n ([]:List ct.D))) true::(fr++(Za8 ct (List.replicate n [])++ [])))[j]? =some m→ ∃m',(SM.many (.l ct) (List.replicate n SV.nils) true::fr)[j]? =some m'∧live m'=true:=by
   intro j m hj hl hm
   cases j with
   |zero=>exact⟨_,rfl,rfl⟩
   |succ j=>
    rw[List.getElem?_cons_succ,List.getElem?_append_left (by omega)]at hm
    exact⟨m,by rw[List.getElem?_cons_succ];exact hm,hl⟩
  obtain⟨m1,g1,g2⟩:=old b1 h3 h1
  obtain⟨m2,g3,g4⟩:=old b2 h4 h2
  exact hs.hp.inj _ _ _ _ a hne g1 g3 g2 g4 h5 h6
theorem Zh6 {ct:CT}: ∀ys:List (List ct.D),Zxk (.l ct) (ys.map fun x=>SV.v (.l ct) x)=some ys
 | []=>rfl
 |x::r=>by
  have e:Zcc (.l ct) [.v (.l ct) x]=some x:=by
   show(if h:ceq ct ct=true then some (ZhY ct ct h x)else none)=some x
   rw[dif_pos (Zdh ct)]
   rfl
  rw[List.map_cons,Zxk,e,Zh6 r]
theorem Zjp {ct:CT} {m:Nat}: ∀ {ys:List (List ct.D)} {q:Nat} {k:List SV→Prop},(∀j (hj:j<ys.length),nth hp (j+q)=some (.row ct ys[j] true))→k (ys.map fun x=>SV.v (.l ct) x)→Zfc (ZdB hp (m+2)) (ZaM q ys) k
 | [],_,_,_,hk=>hk
 |x::r,q,k,hr,hk=>by
  have h0:=hr 0 (Nat.succ_pos _)
  rw[Nat.zero_add]at h0
  have h0:nth hp q=some (.row ct x true):=h0
  simp only[ZaM,Zfc,ZdB,h0]
  refine⟨by omega, ?_⟩
  rw[show sub x 0 x.length=x by rw[sub,List.drop_zero,List.take_of_length_le (Nat.le_refl _)]]
  refine Zjp (ys:=r) (q:=q+1) (fun j hj=> ?_) hk
  have:=hr (j+1) (Nat.succ_lt_succ hj)
  rw[show j+(q+1)=j+1+q by omega]
  exact this
theorem Ztj {ct:CT} {fr ex:List SM} {xs:List (List ct.D)} {p n m:Nat} {b:Bool} {o:Option Nat} {k:SV→Prop} (hq:p=fr.length+1) (hn:n=xs.length) (hk:k (.v (.l (.l ct)) xs)):ZdB (.many (.l ct) (ZaM p xs) b::(fr++(Za8 ct xs++ex))) (m+3) (.ref 0 0 n o) k:=by
 simp only[ZdB,nth]
 refine⟨by rw[ZaF];omega, ?_⟩
 rw[show sub (ZaM p xs) 0 n=ZaM p xs by rw[sub,List.drop_zero,List.take_of_length_le (by rw[ZaF];omega)]]
 refine Zjp (fun j hj=>Zsu hj hq) ?_
 rw[Zh6]
 exact hk
theorem ZvW {F:Nat} {tm tm':TM} {ct:CT} {fr ex:List SM} {xs:List (List ct.D)} {i i' n' e L p:Nat} {y:List ct.D} {d:SM} (hi':i'=i) (hn':n'=y.length) (hq:p=fr.length+1) (hi:i<xs.length) (hL:L=fr.length+1+xs.length+e) (hx:ex[e]? =some (.row ct y true)) (hF:F≤p) (hfr: ∀m∈fr,∀id∈Zg2 m,id<p) (htm:ZvS p tm tm'):
 Ent F tm (.many (.l ct) ((ZaM p xs).set i' (.ref L 0 n' none)) true::(fr++((Za8 ct xs).set i d++ex))) tm' (.many (.l ct) (ZaM p (xs.set i y)) true::(fr++(Za8 ct (xs.set i y)++ []))):=by
 subst hi' hn'
 exact ZxG hq hi hL hx hF hfr htm
def ZBl (tm:TM):TM→Prop
 | []=>True
 |(i,V')::r=>Zbj i tm=some V'∧ZBl tm r
theorem ZpM {tm:TM}: ∀ {tm':TM} {i:Nat} {V:SV},ZBl tm tm'→Zbj i tm'=some V→Zbj i tm=some V
 | [],_,_,_,h=>by cases h
 |(j,W)::r,i,V,hs,h=>by
  simp only[Zbj]at h
  cases hb:Nat.beq i j with
  |true=>rw[hb]at h;cases h;rw[Nat.eq_of_beq_eq_true hb];exact hs.1
  |false=>rw[hb]at h;exact ZpM hs.2 h
theorem Zap {F:Nat} {tm tm':TM} (htm:ZBl tm tm'):Ent F tm hp tm' hp:=
 ⟨fun φ st _ hs=>⟨φ,Fr.refl F φ,fun i V hi=>hs.tm i V (ZpM htm hi),hs.hp⟩⟩
theorem Ent.trans {F:Nat} {tm tm1 tm2:TM} {hp hp1 hp2:List SM} (h1:Ent F tm hp tm1 hp1) (h2:Ent F tm1 hp1 tm2 hp2):Ent F tm hp tm2 hp2:=by
 refine⟨fun φ st hF hs=> ?_⟩
 obtain⟨φ1,g1,g2⟩:=h1.out φ st hF hs
 obtain⟨φ2,g3,g4⟩:=h2.out φ1 st (by
  cases F with
  |zero=>exact Nat.zero_le _
  |succ n=>
   have e:=g1 n (Nat.lt_succ_self n)
   rw[List.getElem?_eq_getElem (show n<φ.length from hF)]at e
   exact(List.getElem?_eq_some_iff.1 e).1) g2
 exact⟨φ2,g1.trans g3,g4⟩
theorem ZiR {tm tm':TM} (htm:ZvS 0 tm tm'):Ent 0 tm hp tm' []:=by
 refine Zhb id (Nat.le_refl 0) (fun _ _=>rfl) (fun j hj=>absurd hj (Nat.not_lt_zero j)) (fun i j hi=>absurd hi (Nat.not_lt_zero i)) (ZiN (fun _ _=>rfl) (Nat.le_refl 0) htm) fun j m hm=> ?_
 simp at hm
structure CodeOK (P:Program) (h:Hints) (F:Nat) (c:Cx) (b:Code) (tm:TM) (hp:List SM) (k:Ex→TM→List SM→Prop):Prop where
 out: ∀φ st,F≤φ.length→SRep φ tm hp st→ ∃e st' φ' tm' hp',exS P h (lim P h) c b st=some (e,st')∧Fr F φ φ'∧SRep φ' tm' hp' st'∧k e tm' hp'
theorem Zau (hT:TysOK P T) {c:Cx} {b:Code} {k:Ex→TM→List SM→Prop} (hw:wp P h T F c b tm hp k):CodeOK P h F c b tm hp k:=⟨fun φ st hF hs=>ZkE hT c b tm hp k φ st hw hF hs⟩
theorem Zak {c:Cx} {a b:Code} {k:Ex→TM→List SM→Prop} (hw:CodeOK P h F c a tm hp (Zzi k fun tm' hp'=>CodeOK P h F c b tm' hp' k)):CodeOK P h F c (.seq a b) tm hp k:=by
 refine⟨fun φ st hF hs=> ?_⟩
 obtain⟨e,st1,φ1,tm1,hp1,h1,h2,h3,h4⟩:=hw.out φ st hF hs
 cases e with
 |normal=>
  obtain⟨e,st',φ',tm',hp',g1,g2,g3,g4⟩:=CodeOK.out h4 φ1 st1 (h2.len hF) h3
  exact⟨e,st',φ',tm',hp',by simp only[exS,h1,Option.bind_some,Zfl,g1],h2.trans g2,g3,g4⟩
 |exit j=>exact⟨_,st1,φ1,tm1,hp1,by simp only[exS,h1,Option.bind_some,Zfl],h2,h3,h4⟩
 |ret=>exact⟨_,st1,φ1,tm1,hp1,by simp only[exS,h1,Option.bind_some,Zfl],h2,h3,h4⟩
theorem CodeOK.ent {c:Cx} {b:Code} {k:Ex→TM→List SM→Prop} {tm':TM} {hp':List SM} (hl:CodeOK P h F c b tm' hp' k) (he:Ent F tm hp tm' hp'):CodeOK P h F c b tm hp k:=
 ⟨fun φ st hF hs=>by
  obtain⟨φ1,h1,h2⟩:=he.out φ st hF hs
  obtain⟨e,st',φ',tm',hp',f1,f2,f3,f4⟩:=hl.out φ1 st (h1.len hF) h2
  exact⟨e,st',φ',tm',hp',f1,h1.trans f2,f3,f4⟩⟩
theorem ZeX (hT:TysOK P T) {f:FuncId} {fn:Func} {code:Code} {Vs:List SV} {Q:SV→Prop} (hok:h.ok f=true) (hp:h.prim f=none) (hf:P.funcs[f]? =some fn) (hb:fn.body=some code) (hn:Vs.length≤fn.ntmps)
 (hw:CodeOK P h 0 ⟨f,0,fn.ntmps⟩ code (Zcw 0 Vs) [] (ZrM T fn.results.toList fun V hp=>ZdB hp 40 V Q)):PureOK P h f Vs Q:=by
 refine⟨fun qs hr=> ?_⟩
 obtain⟨e,st',φ',tm',hp',h1,h2,h3,h4⟩:=hw.out [] ⟨Zbc 0 qs,[]⟩ (Nat.zero_le _) ⟨Zib hr,RH.empty⟩
 obtain⟨v,V,h5,h6,h7⟩:=ZtA hT h3 h4
 have hrn:(lim P h).rn f qs []=some (v,st'.hp):=by
  refine ZwY hok hf hb (by rw[←hr.len];exact hn) ?_
  show(exS P h (lim P h) ⟨f,0,fn.ntmps⟩ code ⟨Zbc 0 qs,[]⟩).bind _=_
  rw[h1,Option.bind_some]
  exact h5
 obtain⟨q',V',g1,g2,g3,_⟩:=Zja h3.hp 40 V v Q h7 h6
 refine⟨q',V', ?_,g2,g3⟩
 simp only[Zby,hp,hrn,Option.bind_some]
 exact g1
def Zsf:Nat→Code→Code
 |0,c=>c
 |n+1, .seq _ b=>Zsf n b
 |_,c=>c
theorem ZkI {id i n m:Nat} {o:Option Nat} {ct:CT} {l:List ct.D} {b:Bool} {k:SV→Prop} (hn:nth hp id=some (.row ct l b)) (hl:i+n≤l.length) (hk:k (.v (.l ct) (sub l i n))):ZdB hp (m+2) (.ref id i n o) k:=by
 simp only[ZdB,hn]
 exact⟨hl,hk⟩
theorem ZbI {a b:Operand} {t e:TypeId} {kk:IntKind} {j:Int} {id i n:Nat} {o:Option Nat} {ct:CT} {l:List ct.D} {bb:Bool} {k:SV→List SM→Prop} (ho:op= .indexAddr t a b) (ha:evS tm a=some (.ref id i n o)) (hb:evS tm b=some (.v (.i kk) j)) (hk1:(T t).k= .slice e) (h3:ZcW (T e).k=false) (hn:nth hp id=some (.row ct l bb)) (hz:Nat.beq ct.w (T e).sz=true) (hj:0≤j∧j<n) (hk:k (.ptr id (i+j.toNat) 0) hp):opT P h T op tm hp k:=by
 subst ho
 simp only[opT,ha,hb,ZdJ,hk1]
 generalize hkk:(T e).k=q at*
 cases q<;>first|(cases h3;done)|exact ZxY hn hz hj hk
theorem ZaD {a b:Operand} {t e:TypeId} {kk:IntKind} {j:Int} {id i n:Nat} {o:Option Nat} {ct:CT} {l:List SV} {bb:Bool} {k:SV→List SM→Prop} (ho:op= .indexAddr t a b) (ha:evS tm a=some (.ref id i n o)) (hb:evS tm b=some (.v (.i kk) j)) (hk1:(T t).k= .slice e) (h3:ZcW (T e).k=false) (hn:nth hp id=some (.many ct l bb)) (hz:Nat.beq 1 (T e).sz=true) (hj:0≤j∧j<n) (hk:k (.ptr id (i+j.toNat) 0) hp):opT P h T op tm hp k:=by
 subst ho
 simp only[opT,ha,hb,ZdJ,hk1]
 have hg:ixT (T e).sz hp (.ref id i n o) j (fun V=>k V hp):=by
  simp only[ixT,hn]
  rw[hz]
  exact⟨hj,hk⟩
 generalize hkk:(T e).k=q at*
 cases q<;>first|(cases h3;done)|exact hg
theorem ZeD {a b:Operand} {t:TypeId} {id i:Nat} {x:SV} {ct:CT} {l:List SV} {k:SV→List SM→Prop} (ho:op= .store t a b) (ha:evS tm a=some (.ptr id i 0)) (hb:evS tm b=some x) (hn:nth hp id=some (.many ct l true)) (h1:(Zbp x&&Nat.beq (Zbe x).length (T t).sz)=true) (h2:Zp1 x=true) (h3:ZcW (T t).k=false) (hi:i<l.length) (hk:k (.tup []) (hp.set id (.many ct (l.set i x) true))):opT P h T op tm hp k:=by
 subst ho
 simp only[opT,ha,hb,ZhC,h1,hn]
 refine⟨hi, ?_⟩
 rw[h2]
 generalize(T t).k=q at*
 cases q<;>first|(cases h3;done)|exact hk
theorem ZaS {a:Operand} {t:TypeId} {id i:Nat} {V:SV} {ct:CT} {l:List SV} {bb:Bool} {k:SV→List SM→Prop} (ho:op= .load t a) (ha:evS tm a=some (.ptr id i 0)) (hn:nth hp id=some (.many ct l bb)) (hv:l[i]? =some V) (h1:Zgy (T t) [V] 0=some V) (hk:k V hp):opT P h T op tm hp k:=by
 subst ho
 simp only[opT,ha,Zli,hn]
 exact⟨V,hv,by rw[h1];exact hk⟩
end
theorem ZCw {p q:Prop} (h:q) (k:q→p:=by
 intro h
 repeat (first|refine Zjx ?_|refine Zgg ?_|refine ZdH ?_)
 first|((repeat first|with_reducible refine ZaA ?_|((with_reducible refine ZeO ?_ ?_);rfl));exact ZgM rfl rfl h)|exact ZaA (ZgM rfl rfl h)|exact ZaA (ZaA (ZgM rfl rfl h))):p:=k h
theorem ZAX {p q:Prop} (h:q) (k:q→p:=by
 intro h
 repeat (first|refine Zjx ?_|refine Zgg ?_|refine ZdH ?_)
 first|((repeat first|with_reducible refine ZaA ?_|((with_reducible refine ZeO ?_ ?_);rfl));exact Zhc rfl rfl rfl rfl h)|exact ZaA (Zhc rfl rfl rfl rfl h)|exact ZaA (ZaA (Zhc rfl rfl rfl rfl h))):p:=k h
theorem ZAI {p q:Prop} (h:q) (k:q→p:=by
 intro h
 refine ZxH ?_
 repeat (first|refine Zgg ?_|refine ZdH ?_)
 exact h):p:=k h
end Go.Tx
