/-
 Rows of own rows: a matrix behind the first rows of a heap; operations whose place is known by an equation; regions with light operations, one at a time.
-/
import Derived.Test.YtdnodlkdndfplaaGreatDoorTxB
set_option linter.constructorNameAsVariable false
set_option linter.unusedSimpArgs false
set_option linter.unusedVariables false
namespace Go.Tx
open Go.Am
section
variable {P : Program} {h : Hints} {T : TypeId → TI} {hp : List SM} {tm : TM}
theorem Zc1: ∀e:CT,ceq e e=true
 | .i k=>by cases k<;>rfl
 | .b=>rfl
 | .s=>rfl
 | .l e=>Zc1 e
 | .p a b=>by simp only[ceq,Zc1 a,Zc1 b,Bool.and_true]
def Zbc {α:Type}:Nat→List (List α)→List SV
 |_,[]=> []
 |p,x::r=> .ref p 0 x.length none::Zbc (p+1) r
def ZbI (ct:CT) (xs:List (List ct.D)):List SM:=xs.map fun x=> .row ct x true
theorem ZaT {α:Type}: ∀ (p:Nat) (xs:List (List α)),(Zbc p xs).length=xs.length
 |_,[]=>rfl
 |p,x::r=>by rw[Zbc,List.length_cons,ZaT,List.length_cons]
theorem Zgd {α:Type}: ∀ {p:Nat} {xs:List (List α)} {i:Nat} (hi:i<xs.length),(Zbc p xs)[i]? =some (.ref (i+p) 0 xs[i].length none)
 |p,x::r,0,_=>by rw[Nat.zero_add];rfl
 |p,x::r,i+1,hi=>by
  have:=Zgd (p:=p+1) (xs:=r) (i:=i) (Nat.lt_of_succ_lt_succ hi)
  rw[Zbc,List.getElem?_cons_succ,this]
  simp only[List.getElem_cons_succ,Option.some.injEq,SV.ref.injEq,and_true]
  omega
theorem ZaJ {ct:CT} (xs:List (List ct.D)):(ZbI ct xs).length=xs.length:=List.length_map _
theorem ZmS {ct:CT} {xs:List (List ct.D)} {i:Nat} (hi:i<xs.length):(ZbI ct xs)[i]? =some (.row ct xs[i] true):=by
 rw[ZbI,List.getElem?_map,List.getElem?_eq_getElem hi]
 rfl
theorem Zt3 {ct:CT} {xs:List (List ct.D)} {i:Nat} {y:List ct.D}:(ZbI ct xs).set i (.row ct y true)=ZbI ct (xs.set i y):=by rw[ZbI,ZbI,List.map_set]
theorem ZrU {A:SM} {fr ex:List SM} {ct:CT} {xs:List (List ct.D)} {i p:Nat} (hi:i<xs.length) (hq:p=fr.length+1):nth (A::(fr++(ZbI ct xs++ex))) (i+p)=some (.row ct xs[i] true):=by
 rw[ZaG,hq,show i+(fr.length+1)=(fr.length+i)+1 by omega,List.getElem?_cons_succ,List.getElem?_append_right (by omega),Nat.add_sub_cancel_left,List.getElem?_append_left (by rw[ZaJ];exact hi),ZmS hi]
theorem ZzS {A:SM} {fr ex:List SM} {ct:CT} {xs:List (List ct.D)} {j n:Nat} (hn:n=fr.length+1+xs.length+j):nth (A::(fr++(ZbI ct xs++ex))) n=ex[j]? :=by
 rw[ZaG,hn,show fr.length+1+xs.length+j=(fr.length+(xs.length+j))+1 by omega,List.getElem?_cons_succ,List.getElem?_append_right (by omega),Nat.add_sub_cancel_left,List.getElem?_append_right (by rw[ZaJ];omega),ZaJ,Nat.add_sub_cancel_left]
theorem Zxm {A:SM} {fr ex:List SM} {ct:CT} {xs:List (List ct.D)} {i p:Nat} {x:SM} (hi:i<xs.length) (hq:p=fr.length+1):(A::(fr++(ZbI ct xs++ex))).set (i+p) x=A::(fr++((ZbI ct xs).set i x++ex)):=by
 rw[hq,show i+(fr.length+1)=(fr.length+i)+1 by omega,List.set_cons_succ,List.set_append_right _ _ (by omega),Nat.add_sub_cancel_left,List.set_append_left _ _ (by rw[ZaJ];exact hi)]
theorem Zz1 {A:SM} {fr ex:List SM} {ct:CT} {xs:List (List ct.D)} {j n:Nat} {x:SM} (hn:n=fr.length+1+xs.length+j):(A::(fr++(ZbI ct xs++ex))).set n x=A::(fr++(ZbI ct xs++ex.set j x)):=by
 rw[hn,show fr.length+1+xs.length+j=(fr.length+(xs.length+j))+1 by omega,List.set_cons_succ,List.set_append_right _ _ (by omega),Nat.add_sub_cancel_left,List.set_append_right _ _ (by rw[ZaJ];omega),ZaJ,Nat.add_sub_cancel_left]
theorem Zzn {A:SM} {fr ex:List SM} {ct:CT} {xs:List (List ct.D)}:(A::(fr++(ZbI ct xs++ex))).length=fr.length+1+xs.length+ex.length:=by
 rw[List.length_cons,List.length_append,List.length_append,ZaJ];omega
theorem ZxX {A:SM} {fr ex:List SM} {ct:CT} {xs:List (List ct.D)} {x:SM}:(A::(fr++(ZbI ct xs++ex)))++ [x]=A::(fr++(ZbI ct xs++(ex++ [x]))):=by
 rw[List.cons_append,List.append_assoc,List.append_assoc]
def Zdi:TK→Bool
 | .other=>true
 |_=>false
theorem ZnV {t:TypeId} {id i r:Nat} {x:SV} {cs:List SV} {k:SV→List SM→Prop} (hn:nth hp id=some (.cell cs true)) (h1:(Zbl x&&Nat.beq (Za8 x).length (T t).sz)=true) (h2:Nat.ble (r+(T t).sz) cs.length=true) (h3:Zdi (T t).k=false) (hi:i=0) (hk:k (.tup []) (hp.set id (.cell (spl cs r (Za8 x)) true))):Zhs T t hp (.ptr id i r) x k:=by
 simp only[Zhs,h1,hn]
 refine⟨hi, ?_⟩
 rw[h2]
 split
 ·rename_i h4;rw[h4]at h3;cases h3
 ·exact hk
 ·rename_i h4;exact(h4 rfl).elim
theorem Zqe {t:TypeId} {id i r:Nat} {cs:List SV} {V:SV} {m:Bool} {k:SV→Prop} (hn:nth hp id=some (.cell cs m)) (h1:Zgf (T t) cs r=some V) (hi:i=0) (hk:k V):ZkP T t hp (.ptr id i r) k:=by
 simp only[ZkP,hn]
 exact⟨hi,by rw[h1];exact hk⟩
theorem Zsh {t:TypeId} {id i r:Nat} {ct:CT} {l:List ct.D} {x:ct.D} {V:SV} {m:Bool} {k:SV→Prop} (hn:nth hp id=some (.row ct l m)) (hx:l[i]? =some x) (h1:Zgf (T t) (ZcK ct x) r=some V) (hk:k V):ZkP T t hp (.ptr id i r) k:=by
 simp only[ZkP,hn]
 exact⟨x,hx,by rw[h1];exact hk⟩
theorem Zq5 {t:TypeId} {id i r:Nat} {x:SV} {ct:CT} {l:List ct.D} {y z:ct.D} {k:SV→List SM→Prop} (hn:nth hp id=some (.row ct l true)) (h1:(Zbl x&&Nat.beq (Za8 x).length (T t).sz)=true) (hy:l[i]? =some y) (h2:Nat.ble (r+(T t).sz) ct.w=true) (h3:Zdi (T t).k=false) (h4:ZbZ ct (spl (ZcK ct y) r (Za8 x))=some z) (hk:k (.tup []) (hp.set id (.row ct (l.set i z) true))):Zhs T t hp (.ptr id i r) x k:=by
 simp only[Zhs,h1,hn]
 refine⟨y,hy, ?_⟩
 rw[h2,h4]
 generalize(T t).k=kk at*
 cases kk<;>first|(cases h3;done)|exact hk
theorem ZwX {z id i n:Nat} {m:Option Nat} {j:Int} {ct:CT} {l:List ct.D} {b:Bool} {k:SV→Prop} (hn:nth hp id=some (.row ct l b)) (hz:Nat.beq ct.w z=true) (hj:0≤j∧j<n) (hk:k (.ptr id (i+j.toNat) 0)):ixT z hp (.ref id i n m) j k:=by
 simp only[ixT,hn]
 rw[hz]
 exact⟨hj,hk⟩
theorem Zlg {ct:CT} {id i n:Nat} {m:Option Nat} {l:List ct.D} {b:Bool} {k:List ct.D→Prop} (hn:nth hp id=some (.row ct l b)) (hl:i+n≤l.length) (hk:k (sub l i n)):ZqI ct hp (.ref id i n m) k:=by
 simp only[ZqI,hn]
 rw[dif_pos (Zc1 ct)]
 exact⟨hl,hk⟩
theorem Zk4 {ct:CT} {by_ id i n:Nat} {l:List ct.D} {x:ct.D} {r:List ct.D} {k:SV→List SM→Prop} (hn:nth hp id=some (.row ct l true)) (hl:i+n≤l.length) (hz:(n+(r.length+1))*by_≤140737488355328) (hk:k (.ref hp.length 0 (n+(r.length+1)) none) (hp.set id .dead++ [.row ct (sub l i n++x::r) true])):ZtR ct by_ hp (.ref id i n none) (x::r) k:=by
 simp only[ZtR,hn]
 rw[dif_pos (Zc1 ct)]
 exact⟨hl,hz,hk⟩
theorem ZcP {op:Op} {t:TypeId} {id i r:Nat} {x:SV} {cs:List SV} {k:SV→List SM→Prop} {a b:Operand} (ho:op= .store t a b) (ha:evS tm a=some (.ptr id i r)) (hb:evS tm b=some x) (hn:nth hp id=some (.cell cs true)) (h1:(Zbl x&&Nat.beq (Za8 x).length (T t).sz)=true) (h2:Nat.ble (r+(T t).sz) cs.length=true) (h3:Zdi (T t).k=false) (hi:i=0) (hk:k (.tup []) (hp.set id (.cell (spl cs r (Za8 x)) true))):opT P h T op tm hp k:=by
 simp only[ho,opT,ha,hb]
 exact ZnV hn h1 h2 h3 hi hk
theorem ZmK {op:Op} {t:TypeId} {id i r:Nat} {cs:List SV} {V:SV} {m:Bool} {k:SV→List SM→Prop} {a:Operand} (ho:op= .load t a) (ha:evS tm a=some (.ptr id i r)) (hn:nth hp id=some (.cell cs m)) (h1:Zgf (T t) cs r=some V) (hi:i=0) (hk:k V hp):opT P h T op tm hp k:=by
 simp only[ho,opT,ha]
 exact Zqe hn h1 hi hk
theorem Zb5 {op:Op} {t:TypeId} {id i r:Nat} {ct:CT} {l:List ct.D} {x:ct.D} {V:SV} {m:Bool} {k:SV→List SM→Prop} {a:Operand} (ho:op= .load t a) (ha:evS tm a=some (.ptr id i r)) (hn:nth hp id=some (.row ct l m)) (hx:l[i]? =some x) (h1:Zgf (T t) (ZcK ct x) r=some V) (hk:k V hp):opT P h T op tm hp k:=by
 simp only[ho,opT,ha]
 exact Zsh hn hx h1 hk
theorem Zo1 {op:Op} {t:TypeId} {id i r:Nat} {x:SV} {ct:CT} {l:List ct.D} {y z:ct.D} {k:SV→List SM→Prop} {a b:Operand} (ho:op= .store t a b) (ha:evS tm a=some (.ptr id i r)) (hb:evS tm b=some x) (hn:nth hp id=some (.row ct l true)) (h1:(Zbl x&&Nat.beq (Za8 x).length (T t).sz)=true) (hy:l[i]? =some y) (h2:Nat.ble (r+(T t).sz) ct.w=true) (h3:Zdi (T t).k=false) (h4:ZbZ ct (spl (ZcK ct y) r (Za8 x))=some z) (hk:k (.tup []) (hp.set id (.row ct (l.set i z) true))):opT P h T op tm hp k:=by
 simp only[ho,opT,ha,hb]
 exact Zq5 hn h1 hy h2 h3 h4 hk
variable {F N : Nat} {ls : List Nat} {o : Oper} {l : List Oper} {i dd : Nat} {ks : List (Nat × Nat × Bool)} {kk : TM → List SM → Prop} {V : SV}
theorem Zg0 {c:Cx} {id j:Nat} {js:List Nat} {ops:Array Oper} {dr:Bool} {k:Ex→TM→List SM→Prop} (hl:h.light c.fid id=j::js) (hg:noG ops.toList=true) (hk:ZaQ P h T c.N (j::js) ops.toList 0 [] tm hp fun tm' hp'=>k .normal tm' hp') (hπ:h.perm c.fid id=[]:=by rfl):wp P h T F c (.region id ops dr) tm hp k:=by
 simp only[wp,wpR,hπ,hl,hg]
 exact hk
theorem ZgN {c:Cx} {id i j:Nat} {r js:List Nat} {ops:Array Oper} {os:List Oper} {dr:Bool} {k:Ex→TM→List SM→Prop} (hπ:h.perm c.fid id=i::r) (hl:h.light c.fid id=j::js) (ho:ZgR (i::r) ops (i::r)=os) (hg:noG os=true) (hk:ZaQ P h T c.N (j::js) os 0 [] tm hp fun tm' hp'=>k .normal tm' hp'):wp P h T F c (.region id ops dr) tm hp k:=by
 have e:(rgo (i::r) ops).toList=os:=ho
 simp only[wp,wpR,hπ,hl,e,hg]
 exact hk
theorem ZxN (hk:kk tm hp):ZaQ P h T N ls [] i ks tm hp kk:=hk
theorem ZlK {x:Operand} (hi:has i ls=true) (ho:o.op= .move x) (hx:evS tm x=some V) (hd:o.dst=some dd) (hN:Nat.ble (dd+1) N=true) (hk:ZaQ P h T N ls l (i+1) ks ((dd,V)::tm) hp kk):ZaQ P h T N ls (o::l) i ks tm hp kk:=by
 simp only[ZaQ,hi,ho,opT,hx,ZcY,hd,hN]
 exact hk
theorem Zd8 (hi:has i ls=false) (hw:isW h o=false) (ho:opT P h T o.op tm hp fun V hp'=>ZcY N o.dst V tm fun tm'=>ZaQ P h T N ls l (i+1) ks tm' hp' kk):ZaQ P h T N ls (o::l) i ks tm hp kk:=by
 simp only[ZaQ,hi,Zqw,hw]
 split
 ·exact ho
 ·exact ho
theorem ZrQ (hi:has i ls=false) (hd:Zqw h o ks=[]) (ho:opT P h T o.op tm hp fun V hp'=>ZcY N o.dst V tm fun tm'=>ZaQ P h T N ls l (i+1) [] tm' hp' kk):ZaQ P h T N ls (o::l) i ks tm hp kk:=by
 simp only[ZaQ,hi,hd]
 exact ho
theorem ZdP {c:TM→Prop} {dst:Option Tmp} (ho:dst=some dd) (hN:Nat.ble (dd+1) N=true) (hk:c ((dd,V)::tm)):ZcY N dst V tm c:=by
 simp only[ZcY,ho,hN]
 exact hk
theorem ZbA {c:TM→Prop} {dst:Option Tmp} (ho:dst=none) (hk:c tm):ZcY N dst V tm c:=by
 simp only[ZcY,ho]
 exact hk
variable {op : Op} {dst : Option Tmp} {c : TM → List SM → Prop}
theorem opv (he: ∀k,opT P h T op tm hp k=k V hp) (ho:dst=some dd) (hN:Nat.ble (dd+1) N=true) (hk:c ((dd,V)::tm) hp):opT P h T op tm hp fun V hp'=>ZcY N dst V tm fun tm'=>c tm' hp':=by
 rw[he]
 simp only[ZcY,ho,hN]
 exact hk
theorem opm {hp':List SM} (he: ∀k,opT P h T op tm hp k=k V hp') (ho:dst=some dd) (hN:Nat.ble (dd+1) N=true) (hk:c ((dd,V)::tm) hp'):opT P h T op tm hp fun V hp'=>ZcY N dst V tm fun tm'=>c tm' hp':=by
 rw[he]
 simp only[ZcY,ho,hN]
 exact hk
theorem opc {C:Prop} (he: ∀k,opT P h T op tm hp k=(C∧k V hp)) (hc:C) (ho:dst=some dd) (hN:Nat.ble (dd+1) N=true) (hk:c ((dd,V)::tm) hp):opT P h T op tm hp fun V hp'=>ZcY N dst V tm fun tm'=>c tm' hp':=by
 rw[he]
 simp only[ZcY,ho,hN]
 exact⟨hc,hk⟩
theorem Zrq {ds:List (Option Tmp)} {hp':List SM} (e:hp=hp') (hk:wpOps P h T N ds l tm hp' kk):wpOps P h T N ds l tm hp kk:=e▸hk
mutual
theorem ZwN {f:Nat→Nat} {p:Nat} (hf: ∀j,j<p→f j=j): ∀V:SV,(∀id∈ZcV V,id<p)→rnV f V=V
 | .ref id i n m,hb=>by rw[rnV,hf id (hb id (by simp[ZcV]))]
 | .ptr id i r,hb=>by rw[rnV,hf id (hb id (by simp[ZcV]))]
 | .func g a c,hb=>by
  simp only[ZcV,List.mem_append]at hb
  rw[rnV,rnL_id hf a (fun id hi=>hb id (.inl hi)),rnL_id hf c (fun id hi=>hb id (.inr hi))]
 | .agg cs,hb=>by rw[rnV,rnL_id hf cs (by simpa only[ZcV]using hb)]
 | .tup cs,hb=>by rw[rnV,rnL_id hf cs (by simpa only[ZcV]using hb)]
 | .v _ _,_| .nilp,_| .nils,_| .nilf,_| .nili,_| .box _ _ _,_=>rfl
theorem rnL_id {f:Nat→Nat} {p:Nat} (hf: ∀j,j<p→f j=j): ∀l:List SV,(∀id∈rchL l,id<p)→rnL f l=l
 | [],_=>rfl
 |V::r,hb=>by
  simp only[rchL,List.mem_append]at hb
  rw[rnL,ZwN hf V (fun id hi=>hb id (.inl hi)),rnL_id hf r (fun id hi=>hb id (.inr hi))]
end
theorem Zhp {f:Nat→Nat} {p:Nat} (hf: ∀j,j<p→f j=j) (m:SM) (hb: ∀id∈Zfg m,id<p):rnM f m=m:=by
 cases m with
 |row t l b=>rfl
 |cell cs b=>rw[rnM,rnL_id hf cs (by simpa only[Zfg]using hb)]
 |many ct els b=>rw[rnM,rnL_id hf els (by simpa only[Zfg]using hb)]
 |dead=>rfl
theorem Zt7 (f:Nat→Nat): ∀l:List SV,rnL f l=l.map (rnV f)
 | []=>rfl
 |v::r=>by rw[rnL,Zt7 f r];rfl
theorem ZiJ {α:Type} {id:Nat}: ∀ {p:Nat} {xs:List (List α)},id∈rchL (Zbc p xs)→id<p+xs.length
 |p,x::r,hm=>by
  simp only[Zbc,rchL,ZcV,List.mem_append,List.mem_singleton]at hm
  rw[List.length_cons]
  rcases hm with rfl|hm
  ·omega
  ·have:=ZiJ (p:=p+1) (xs:=r) hm
   omega
theorem ZhM {ct:CT}: ∀ys:List (List ct.D),Zug (.l ct) (ys.map fun x=>SV.v (.l ct) x)=some ys
 | []=>rfl
 |x::r=>by
  have e:ZbZ (.l ct) [.v (.l ct) x]=some x:=by
   show(if h:ceq ct ct=true then some (ZhC ct ct h x)else none)=some x
   rw[dif_pos (Zc1 ct)]
   rfl
  rw[List.map_cons,Zug,e,ZhM r]
theorem ZhT {ct:CT} {m:Nat}: ∀ {ys:List (List ct.D)} {q:Nat} {k:List SV→Prop},(∀j (hj:j<ys.length),nth hp (j+q)=some (.row ct ys[j] true))→k (ys.map fun x=>SV.v (.l ct) x)→ZdU (Zdn hp (m+2)) (Zbc q ys) k
 | [],_,_,_,hk=>hk
 |x::r,q,k,hr,hk=>by
  have h0:=hr 0 (Nat.succ_pos _)
  rw[Nat.zero_add]at h0
  have h0:nth hp q=some (.row ct x true):=h0
  simp only[Zbc,ZdU,Zdn,h0]
  refine⟨by omega, ?_⟩
  rw[show sub x 0 x.length=x by rw[sub,List.drop_zero,List.take_of_length_le (Nat.le_refl _)]]
  refine ZhT (ys:=r) (q:=q+1) (fun j hj=> ?_) hk
  have:=hr (j+1) (Nat.succ_lt_succ hj)
  rw[show j+(q+1)=j+1+q by omega]
  exact this
theorem Zyy {ct:CT} {fr ex:List SM} {xs:List (List ct.D)} {p n m:Nat} {b:Bool} {o:Option Nat} {k:SV→Prop} (hq:p=fr.length+1) (hn:n=xs.length) (hk:k (.v (.l (.l ct)) xs)):Zdn (.many (.l ct) (Zbc p xs) b::(fr++(ZbI ct xs++ex))) (m+3) (.ref 0 0 n o) k:=by
 simp only[Zdn,nth]
 refine⟨by rw[ZaT];omega, ?_⟩
 rw[show sub (Zbc p xs) 0 n=Zbc p xs by rw[sub,List.drop_zero,List.take_of_length_le (by rw[ZaT];omega)]]
 refine ZhT (fun j hj=>ZrU hj hq) ?_
 rw[ZhM]
 exact hk
def ZAQ (tm:TM):TM→Prop
 | []=>True
 |(i,V')::r=>ZbQ i tm=some V'∧ZAQ tm r
theorem Zp2 {tm:TM}: ∀ {tm':TM} {i:Nat} {V:SV},ZAQ tm tm'→ZbQ i tm'=some V→ZbQ i tm=some V
 | [],_,_,_,h=>by cases h
 |(j,W)::r,i,V,hs,h=>by
  simp only[ZbQ]at h
  cases hb:Nat.beq i j with
  |true=>rw[hb]at h;cases h;rw[Nat.eq_of_beq_eq_true hb];exact hs.1
  |false=>rw[hb]at h;exact Zp2 hs.2 h
theorem Zaq {F:Nat} {tm tm':TM} (htm:ZAQ tm tm'):Ent F tm hp tm' hp:=
 ⟨fun φ st _ hs=>⟨φ,Fr.refl F φ,fun i V hi=>hs.tm i V (Zp2 htm hi),hs.hp⟩⟩
theorem Ent.trans {F:Nat} {tm tm1 tm2:TM} {hp hp1 hp2:List SM} (h1:Ent F tm hp tm1 hp1) (h2:Ent F tm1 hp1 tm2 hp2):Ent F tm hp tm2 hp2:=by
 refine⟨fun φ st hF hs=> ?_⟩
 obtain⟨φ1,g1,g2⟩:=h1.out φ st hF hs
 obtain⟨φ2,g3,g4⟩:=h2.out φ1 st (by
  cases F with
  |zero=>exact Nat.zero_le _
  |succ n=>
   have e:=g1 n (Nat.lt_succ_self n)
   rw[List.getElem?_eq_getElem (show n<φ.length from hF)]at e
   exact(List.getElem?_eq_some_iff.1 e).1) g2
 exact⟨φ2,g1.trans g3,g4⟩
structure CodeOK (P:Program) (h:Hints) (F:Nat) (c:Cx) (b:Code) (tm:TM) (hp:List SM) (k:Ex→TM→List SM→Prop):Prop where
 out: ∀φ st,F≤φ.length→SRep φ tm hp st→ ∃e st' φ' tm' hp',exS P h (lim P h) c b st=some (e,st')∧Fr F φ φ'∧SRep φ' tm' hp' st'∧k e tm' hp'
theorem ZaR (hT:TysOK P T) {c:Cx} {b:Code} {k:Ex→TM→List SM→Prop} (hw:wp P h T F c b tm hp k):CodeOK P h F c b tm hp k:=⟨fun φ st hF hs=>ZkW hT c b tm hp k φ st hw hF hs⟩
theorem ZaA {c:Cx} {a b:Code} {k:Ex→TM→List SM→Prop} (hw:CodeOK P h F c a tm hp (Zxg k fun tm' hp'=>CodeOK P h F c b tm' hp' k)):CodeOK P h F c (.seq a b) tm hp k:=by
 refine⟨fun φ st hF hs=> ?_⟩
 obtain⟨e,st1,φ1,tm1,hp1,h1,h2,h3,h4⟩:=hw.out φ st hF hs
 cases e with
 |normal=>
  obtain⟨e,st',φ',tm',hp',g1,g2,g3,g4⟩:=CodeOK.out h4 φ1 st1 (h2.len hF) h3
  exact⟨e,st',φ',tm',hp',by simp only[exS,h1,Option.bind_some,Ze0,g1],h2.trans g2,g3,g4⟩
 |exit j=>exact⟨_,st1,φ1,tm1,hp1,by simp only[exS,h1,Option.bind_some,Ze0],h2,h3,h4⟩
 |ret=>exact⟨_,st1,φ1,tm1,hp1,by simp only[exS,h1,Option.bind_some,Ze0],h2,h3,h4⟩
theorem CodeOK.ent {c:Cx} {b:Code} {k:Ex→TM→List SM→Prop} {tm':TM} {hp':List SM} (hl:CodeOK P h F c b tm' hp' k) (he:Ent F tm hp tm' hp'):CodeOK P h F c b tm hp k:=
 ⟨fun φ st hF hs=>by
  obtain⟨φ1,h1,h2⟩:=he.out φ st hF hs
  obtain⟨e,st',φ',tm',hp',f1,f2,f3,f4⟩:=hl.out φ1 st (h1.len hF) h2
  exact⟨e,st',φ',tm',hp',f1,h1.trans f2,f3,f4⟩⟩
theorem ZjZ (hT:TysOK P T) {f:FuncId} {fn:Func} {code:Code} {Vs:List SV} {Q:SV→Prop} (hok:h.ok f=true) (hp:h.prim f=none) (hf:P.funcs[f]? =some fn) (hb:fn.body=some code) (hn:Vs.length≤fn.ntmps)
 (hw:CodeOK P h 0 ⟨f,0,fn.ntmps⟩ code (Zcl 0 Vs) [] (Zuh T fn.results.toList fun V hp=>Zdn hp 40 V Q)):PureOK P h f Vs Q:=by
 refine⟨fun qs hr=> ?_⟩
 obtain⟨e,st',φ',tm',hp',h1,h2,h3,h4⟩:=hw.out [] ⟨Za6 0 qs,[]⟩ (Nat.zero_le _) ⟨ZhP hr,RH.empty⟩
 obtain⟨v,V,h5,h6,h7⟩:=ZtK hT h3 h4
 have hrn:(lim P h).rn f qs []=some (v,st'.hp):=by
  refine ZwO hok hf hb (by rw[←hr.len];exact hn) ?_
  show(exS P h (lim P h) ⟨f,0,fn.ntmps⟩ code ⟨Za6 0 qs,[]⟩).bind _=_
  rw[h1,Option.bind_some]
  exact h5
 obtain⟨q',V',g1,g2,g3,_⟩:=ZiH h3.hp 40 V v Q h7 h6
 refine⟨q',V', ?_,g2,g3⟩
 simp only[Zbr,hp,hrn,Option.bind_some]
 exact g1
def Zr7:Nat→Code→Code
 |0,c=>c
 |n+1, .seq _ b=>Zr7 n b
 |_,c=>c
theorem ZpQ {id i n m:Nat} {o:Option Nat} {ct:CT} {l:List ct.D} {b:Bool} {k:SV→Prop} (hn:nth hp id=some (.row ct l b)) (hl:i+n≤l.length) (hk:k (.v (.l ct) (sub l i n))):Zdn hp (m+2) (.ref id i n o) k:=by
 simp only[Zdn,hn]
 exact⟨hl,hk⟩
theorem Zby {a b:Operand} {t e:TypeId} {kk:IntKind} {j:Int} {id i n:Nat} {o:Option Nat} {ct:CT} {l:List ct.D} {bb:Bool} {k:SV→List SM→Prop} (ho:op= .indexAddr t a b) (ha:evS tm a=some (.ref id i n o)) (hb:evS tm b=some (.v (.i kk) j)) (hk1:(T t).k= .slice e) (h3:Zdi (T e).k=false) (hn:nth hp id=some (.row ct l bb)) (hz:Nat.beq ct.w (T e).sz=true) (hj:0≤j∧j<n) (hk:k (.ptr id (i+j.toNat) 0) hp):opT P h T op tm hp k:=by
 subst ho
 simp only[opT,ha,hb,Zdy,hk1]
 generalize hkk:(T e).k=q at*
 cases q<;>first|(cases h3;done)|exact ZwX hn hz hj hk
theorem ZaC {a b:Operand} {t e:TypeId} {kk:IntKind} {j:Int} {id i n:Nat} {o:Option Nat} {ct:CT} {l:List SV} {bb:Bool} {k:SV→List SM→Prop} (ho:op= .indexAddr t a b) (ha:evS tm a=some (.ref id i n o)) (hb:evS tm b=some (.v (.i kk) j)) (hk1:(T t).k= .slice e) (h3:Zdi (T e).k=false) (hn:nth hp id=some (.many ct l bb)) (hz:Nat.beq 1 (T e).sz=true) (hj:0≤j∧j<n) (hk:k (.ptr id (i+j.toNat) 0) hp):opT P h T op tm hp k:=by
 subst ho
 simp only[opT,ha,hb,Zdy,hk1]
 have hg:ixT (T e).sz hp (.ref id i n o) j (fun V=>k V hp):=by
  simp only[ixT,hn]
  rw[hz]
  exact⟨hj,hk⟩
 generalize hkk:(T e).k=q at*
 cases q<;>first|(cases h3;done)|exact hg
theorem ZfW {a b:Operand} {t:TypeId} {id i:Nat} {x:SV} {ct:CT} {l:List SV} {k:SV→List SM→Prop} (ho:op= .store t a b) (ha:evS tm a=some (.ptr id i 0)) (hb:evS tm b=some x) (hn:nth hp id=some (.many ct l true)) (h1:(Zbl x&&Nat.beq (Za8 x).length (T t).sz)=true) (h2:Zpp x=true) (h3:Zdi (T t).k=false) (hi:i<l.length) (hk:k (.tup []) (hp.set id (.many ct (l.set i x) true))):opT P h T op tm hp k:=by
 subst ho
 simp only[opT,ha,hb,Zhs,h1,hn]
 refine⟨hi, ?_⟩
 rw[h2]
 generalize(T t).k=q at*
 cases q<;>first|(cases h3;done)|exact hk
theorem ZaO {a:Operand} {t:TypeId} {id i:Nat} {V:SV} {ct:CT} {l:List SV} {bb:Bool} {k:SV→List SM→Prop} (ho:op= .load t a) (ha:evS tm a=some (.ptr id i 0)) (hn:nth hp id=some (.many ct l bb)) (hv:l[i]? =some V) (h1:Zgf (T t) [V] 0=some V) (hk:k V hp):opT P h T op tm hp k:=by
 subst ho
 simp only[opT,ha,ZkP,hn]
 exact⟨V,hv,by rw[h1];exact hk⟩
end
theorem ZBF {p q:Prop} (h:q) (k:q→p:=by
 intro h
 repeat (first|refine Zh8 ?_|refine ZfC ?_|refine Zdp ?_)
 first|((repeat first|with_reducible refine Zay ?_|((with_reducible refine Zeq ?_ ?_);rfl));exact Zg0 rfl rfl h)|exact Zay (Zg0 rfl rfl h)|exact Zay (Zay (Zg0 rfl rfl h))):p:=k h
theorem ZBs {p q:Prop} (h:q) (k:q→p:=by
 intro h
 repeat (first|refine Zh8 ?_|refine ZfC ?_|refine Zdp ?_)
 first|((repeat first|with_reducible refine Zay ?_|((with_reducible refine Zeq ?_ ?_);rfl));exact ZgN rfl rfl rfl rfl h)|exact Zay (ZgN rfl rfl rfl rfl h)|exact Zay (Zay (ZgN rfl rfl rfl rfl h))):p:=k h
theorem ZBf {p q:Prop} (h:q) (k:q→p:=by
 intro h
 refine ZxN ?_
 repeat (first|refine ZfC ?_|refine Zdp ?_)
 exact h):p:=k h
end Go.Tx
