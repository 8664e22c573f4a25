/-
 Rows of own rows: a matrix behind the first rows of a heap; operations whose place is known by an equation; regions with light operations, one at a time.
-/
import Derived.Test.YtdnodlkdndfplaaGreatDoorTxB
set_option linter.constructorNameAsVariable false
set_option linter.unusedSimpArgs false
set_option linter.unusedVariables false
namespace Go.Tx
open Go.Am
section
variable {P : Program} {h : Hints} {T : TypeId → TI} {hp : List SM} {tm : TM}
theorem ZdV: ∀e:CT,ceq e e=true
 | .i k=>by cases k<;>rfl
 | .b=>rfl
 | .s=>rfl
 | .l e=>ZdV e
 | .p a b=>by simp only[ceq,ZdV a,ZdV b,Bool.and_true]
def Za4 {α:Type}:Nat→List (List α)→List SV
 |_,[]=> []
 |p,x::r=> .ref p 0 x.length none::Za4 (p+1) r
def Zbo (ct:CT) (xs:List (List ct.D)):List SM:=xs.map fun x=> .row ct x true
theorem Za9 {α:Type}: ∀ (p:Nat) (xs:List (List α)),(Za4 p xs).length=xs.length
 |_,[]=>rfl
 |p,x::r=>by rw[Za4,List.length_cons,Za9,List.length_cons]
theorem ZfP {α:Type}: ∀ {p:Nat} {xs:List (List α)} {i:Nat} (hi:i<xs.length),(Za4 p xs)[i]? =some (.ref (i+p) 0 xs[i].length none)
 |p,x::r,0,_=>by rw[Nat.zero_add];rfl
 |p,x::r,i+1,hi=>by
  have:=ZfP (p:=p+1) (xs:=r) (i:=i) (Nat.lt_of_succ_lt_succ hi)
  rw[Za4,List.getElem?_cons_succ,this]
  simp only[List.getElem_cons_succ,Option.some.injEq,SV.ref.injEq,and_true]
  omega
theorem ZaL {ct:CT} (xs:List (List ct.D)):(Zbo ct xs).length=xs.length:=List.length_map _
theorem Zlq {ct:CT} {xs:List (List ct.D)} {i:Nat} (hi:i<xs.length):(Zbo ct xs)[i]? =some (.row ct xs[i] true):=by
 rw[Zbo,List.getElem?_map,List.getElem?_eq_getElem hi]
 rfl
theorem Zs2 {ct:CT} {xs:List (List ct.D)} {i:Nat} {y:List ct.D}:(Zbo ct xs).set i (.row ct y true)=Zbo ct (xs.set i y):=by rw[Zbo,Zbo,List.map_set]
theorem Zxg {A:SM} {fr ex:List SM} {ct:CT} {xs:List (List ct.D)} {i p:Nat} (hi:i<xs.length) (hq:p=fr.length+1):nth (A::(fr++(Zbo ct xs++ex))) (i+p)=some (.row ct xs[i] true):=by
 rw[ZaT,hq,show i+(fr.length+1)=(fr.length+i)+1 by omega,List.getElem?_cons_succ,List.getElem?_append_right (by omega),Nat.add_sub_cancel_left,List.getElem?_append_left (by rw[ZaL];exact hi),Zlq hi]
theorem Zy5 {A:SM} {fr ex:List SM} {ct:CT} {xs:List (List ct.D)} {j n:Nat} (hn:n=fr.length+1+xs.length+j):nth (A::(fr++(Zbo ct xs++ex))) n=ex[j]? :=by
 rw[ZaT,hn,show fr.length+1+xs.length+j=(fr.length+(xs.length+j))+1 by omega,List.getElem?_cons_succ,List.getElem?_append_right (by omega),Nat.add_sub_cancel_left,List.getElem?_append_right (by rw[ZaL];omega),ZaL,Nat.add_sub_cancel_left]
theorem Zxs {A:SM} {fr ex:List SM} {ct:CT} {xs:List (List ct.D)} {i p:Nat} {x:SM} (hi:i<xs.length) (hq:p=fr.length+1):(A::(fr++(Zbo ct xs++ex))).set (i+p) x=A::(fr++((Zbo ct xs).set i x++ex)):=by
 rw[hq,show i+(fr.length+1)=(fr.length+i)+1 by omega,List.set_cons_succ,List.set_append_right _ _ (by omega),Nat.add_sub_cancel_left,List.set_append_left _ _ (by rw[ZaL];exact hi)]
theorem Zx7 {A:SM} {fr ex:List SM} {ct:CT} {xs:List (List ct.D)} {j n:Nat} {x:SM} (hn:n=fr.length+1+xs.length+j):(A::(fr++(Zbo ct xs++ex))).set n x=A::(fr++(Zbo ct xs++ex.set j x)):=by
 rw[hn,show fr.length+1+xs.length+j=(fr.length+(xs.length+j))+1 by omega,List.set_cons_succ,List.set_append_right _ _ (by omega),Nat.add_sub_cancel_left,List.set_append_right _ _ (by rw[ZaL];omega),ZaL,Nat.add_sub_cancel_left]
theorem Zyq {A:SM} {fr ex:List SM} {ct:CT} {xs:List (List ct.D)}:(A::(fr++(Zbo ct xs++ex))).length=fr.length+1+xs.length+ex.length:=by
 rw[List.length_cons,List.length_append,List.length_append,ZaL];omega
theorem ZxC {A:SM} {fr ex:List SM} {ct:CT} {xs:List (List ct.D)} {x:SM}:(A::(fr++(Zbo ct xs++ex)))++ [x]=A::(fr++(Zbo ct xs++(ex++ [x]))):=by
 rw[List.cons_append,List.append_assoc,List.append_assoc]
def Zdz:TK→Bool
 | .other=>true
 |_=>false
theorem ZmP {t:TypeId} {id i r:Nat} {x:SV} {cs:List SV} {k:SV→List SM→Prop} (hn:nth hp id=some (.cell cs true)) (h1:(Zbl x&&Nat.beq (Za5 x).length (T t).sz)=true) (h2:Nat.ble (r+(T t).sz) cs.length=true) (h3:Zdz (T t).k=false) (hi:i=0) (hk:k (.tup []) (hp.set id (.cell (spl cs r (Za5 x)) true))):ZgN T t hp (.ptr id i r) x k:=by
 simp only[ZgN,h1,hn]
 refine⟨hi, ?_⟩
 rw[h2]
 split
 ·rename_i h4;rw[h4]at h3;cases h3
 ·exact hk
 ·rename_i h4;exact(h4 rfl).elim
theorem ZjD {t:TypeId} {id i r:Nat} {cs:List SV} {V:SV} {m:Bool} {k:SV→Prop} (hn:nth hp id=some (.cell cs m)) (h1:Zf4 (T t) cs r=some V) (hi:i=0) (hk:k V):ZiC T t hp (.ptr id i r) k:=by
 simp only[ZiC,hn]
 exact⟨hi,by rw[h1];exact hk⟩
theorem ZqZ {t:TypeId} {id i r:Nat} {ct:CT} {l:List ct.D} {x:ct.D} {V:SV} {m:Bool} {k:SV→Prop} (hn:nth hp id=some (.row ct l m)) (hx:l[i]? =some x) (h1:Zf4 (T t) (ZcJ ct x) r=some V) (hk:k V):ZiC T t hp (.ptr id i r) k:=by
 simp only[ZiC,hn]
 exact⟨x,hx,by rw[h1];exact hk⟩
theorem Zqn {t:TypeId} {id i r:Nat} {x:SV} {ct:CT} {l:List ct.D} {y z:ct.D} {k:SV→List SM→Prop} (hn:nth hp id=some (.row ct l true)) (h1:(Zbl x&&Nat.beq (Za5 x).length (T t).sz)=true) (hy:l[i]? =some y) (h2:Nat.ble (r+(T t).sz) ct.w=true) (h3:Zdz (T t).k=false) (h4:ZbZ ct (spl (ZcJ ct y) r (Za5 x))=some z) (hk:k (.tup []) (hp.set id (.row ct (l.set i z) true))):ZgN T t hp (.ptr id i r) x k:=by
 simp only[ZgN,h1,hn]
 refine⟨y,hy, ?_⟩
 rw[h2,h4]
 generalize(T t).k=kk at*
 cases kk<;>first|(cases h3;done)|exact hk
theorem Zxw {z id i n:Nat} {m:Option Nat} {j:Int} {ct:CT} {l:List ct.D} {b:Bool} {k:SV→Prop} (hn:nth hp id=some (.row ct l b)) (hz:Nat.beq ct.w z=true) (hj:0≤j∧j<n) (hk:k (.ptr id (i+j.toNat) 0)):ixT z hp (.ref id i n m) j k:=by
 simp only[ixT,hn]
 rw[hz]
 exact⟨hj,hk⟩
theorem Zoa {ct:CT} {by_ id i n:Nat} {l:List ct.D} {x:ct.D} {r:List ct.D} {k:SV→List SM→Prop} (hn:nth hp id=some (.row ct l true)) (hl:i+n≤l.length) (hz:(n+(r.length+1))*by_≤140737488355328) (hk:k (.ref hp.length 0 (n+(r.length+1)) none) (hp.set id .dead++ [.row ct (sub l i n++x::r) true])):ZtF ct by_ hp (.ref id i n none) (x::r) k:=by
 simp only[ZtF,hn]
 rw[dif_pos (ZdV ct)]
 exact⟨hl,hz,hk⟩
theorem Zdn {op:Op} {t:TypeId} {id i r:Nat} {x:SV} {cs:List SV} {k:SV→List SM→Prop} {a b:Operand} (ho:op= .store t a b) (ha:evS tm a=some (.ptr id i r)) (hb:evS tm b=some x) (hn:nth hp id=some (.cell cs true)) (h1:(Zbl x&&Nat.beq (Za5 x).length (T t).sz)=true) (h2:Nat.ble (r+(T t).sz) cs.length=true) (h3:Zdz (T t).k=false) (hi:i=0) (hk:k (.tup []) (hp.set id (.cell (spl cs r (Za5 x)) true))):opT P h T op tm hp k:=by
 simp only[ho,opT,ha,hb]
 exact ZmP hn h1 h2 h3 hi hk
theorem ZfO {op:Op} {t:TypeId} {id i r:Nat} {cs:List SV} {V:SV} {m:Bool} {k:SV→List SM→Prop} {a:Operand} (ho:op= .load t a) (ha:evS tm a=some (.ptr id i r)) (hn:nth hp id=some (.cell cs m)) (h1:Zf4 (T t) cs r=some V) (hi:i=0) (hk:k V hp):opT P h T op tm hp k:=by
 simp only[ho,opT,ha]
 exact ZjD hn h1 hi hk
theorem ZcD {op:Op} {t:TypeId} {id i r:Nat} {ct:CT} {l:List ct.D} {x:ct.D} {V:SV} {m:Bool} {k:SV→List SM→Prop} {a:Operand} (ho:op= .load t a) (ha:evS tm a=some (.ptr id i r)) (hn:nth hp id=some (.row ct l m)) (hx:l[i]? =some x) (h1:Zf4 (T t) (ZcJ ct x) r=some V) (hk:k V hp):opT P h T op tm hp k:=by
 simp only[ho,opT,ha]
 exact ZqZ hn hx h1 hk
theorem ZuV {op:Op} {t:TypeId} {id i r:Nat} {x:SV} {ct:CT} {l:List ct.D} {y z:ct.D} {k:SV→List SM→Prop} {a b:Operand} (ho:op= .store t a b) (ha:evS tm a=some (.ptr id i r)) (hb:evS tm b=some x) (hn:nth hp id=some (.row ct l true)) (h1:(Zbl x&&Nat.beq (Za5 x).length (T t).sz)=true) (hy:l[i]? =some y) (h2:Nat.ble (r+(T t).sz) ct.w=true) (h3:Zdz (T t).k=false) (h4:ZbZ ct (spl (ZcJ ct y) r (Za5 x))=some z) (hk:k (.tup []) (hp.set id (.row ct (l.set i z) true))):opT P h T op tm hp k:=by
 simp only[ho,opT,ha,hb]
 exact Zqn hn h1 hy h2 h3 h4 hk
variable {F N : Nat} {ls : List Nat} {o : Oper} {l : List Oper} {i dd : Nat} {ks : List (Nat × Nat × Bool)} {kk : TM → List SM → Prop} {V : SV}
theorem ZbB {c:Cx} {id j:Nat} {js:List Nat} {ops:Array Oper} {dr:Bool} {k:Ex→TM→List SM→Prop} (hl:h.light c.fid id=j::js) (hg:noG ops.toList=true) (hk:ZaS P h T c.N (j::js) ops.toList 0 [] tm hp fun tm' hp'=>k .normal tm' hp') (hπ:h.perm c.fid id=[]:=by rfl):wp P h T F c (.region id ops dr) tm hp k:=by
 simp only[wp,wpR,hπ,hl,hg]
 exact hk
theorem ZbE {c:Cx} {id i j:Nat} {r js:List Nat} {ops:Array Oper} {os:List Oper} {dr:Bool} {k:Ex→TM→List SM→Prop} (hπ:h.perm c.fid id=i::r) (hl:h.light c.fid id=j::js) (ho:Zgv (i::r) ops (i::r)=os) (hg:noG os=true) (hk:ZaS P h T c.N (j::js) os 0 [] tm hp fun tm' hp'=>k .normal tm' hp'):wp P h T F c (.region id ops dr) tm hp k:=by
 have e:(rgo (i::r) ops).toList=os:=ho
 simp only[wp,wpR,hπ,hl,e,hg]
 exact hk
theorem Ztf (hk:kk tm hp):ZaS P h T N ls [] i ks tm hp kk:=hk
theorem ZlX {x:Operand} (hi:has i ls=true) (ho:o.op= .move x) (hx:evS tm x=some V) (hd:o.dst=some dd) (hN:Nat.ble (dd+1) N=true) (hk:ZaS P h T N ls l (i+1) ks ((dd,V)::tm) hp kk):ZaS P h T N ls (o::l) i ks tm hp kk:=by
 simp only[ZaS,hi,ho,opT,hx,ZcS,hd,hN]
 exact hk
theorem Zd2 (hi:has i ls=false) (hw:isW h o=false) (ho:opT P h T o.op tm hp fun V hp'=>ZcS N o.dst V tm fun tm'=>ZaS P h T N ls l (i+1) ks tm' hp' kk):ZaS P h T N ls (o::l) i ks tm hp kk:=by
 simp only[ZaS,hi,ZpJ,hw]
 split
 ·exact ho
 ·exact ho
theorem ZsK (hi:has i ls=false) (hd:ZpJ h o ks=[]) (ho:opT P h T o.op tm hp fun V hp'=>ZcS N o.dst V tm fun tm'=>ZaS P h T N ls l (i+1) [] tm' hp' kk):ZaS P h T N ls (o::l) i ks tm hp kk:=by
 simp only[ZaS,hi,hd]
 exact ho
theorem ZdK {c:TM→Prop} {dst:Option Tmp} (ho:dst=some dd) (hN:Nat.ble (dd+1) N=true) (hk:c ((dd,V)::tm)):ZcS N dst V tm c:=by
 simp only[ZcS,ho,hN]
 exact hk
theorem Zcd {c:TM→Prop} {dst:Option Tmp} (ho:dst=none) (hk:c tm):ZcS N dst V tm c:=by
 simp only[ZcS,ho]
 exact hk
variable {op : Op} {dst : Option Tmp} {c : TM → List SM → Prop}
theorem opv (he: ∀k,opT P h T op tm hp k=k V hp) (ho:dst=some dd) (hN:Nat.ble (dd+1) N=true) (hk:c ((dd,V)::tm) hp):opT P h T op tm hp fun V hp'=>ZcS N dst V tm fun tm'=>c tm' hp':=by
 rw[he]
 simp only[ZcS,ho,hN]
 exact hk
theorem opm {hp':List SM} (he: ∀k,opT P h T op tm hp k=k V hp') (ho:dst=some dd) (hN:Nat.ble (dd+1) N=true) (hk:c ((dd,V)::tm) hp'):opT P h T op tm hp fun V hp'=>ZcS N dst V tm fun tm'=>c tm' hp':=by
 rw[he]
 simp only[ZcS,ho,hN]
 exact hk
theorem opc {C:Prop} (he: ∀k,opT P h T op tm hp k=(C∧k V hp)) (hc:C) (ho:dst=some dd) (hN:Nat.ble (dd+1) N=true) (hk:c ((dd,V)::tm) hp):opT P h T op tm hp fun V hp'=>ZcS N dst V tm fun tm'=>c tm' hp':=by
 rw[he]
 simp only[ZcS,ho,hN]
 exact⟨hc,hk⟩
theorem ZvZ {ds:List (Option Tmp)} {hp':List SM} (e:hp=hp') (hk:wpOps P h T N ds l tm hp' kk):wpOps P h T N ds l tm hp kk:=e▸hk
mutual
theorem ZyG {f:Nat→Nat} {p:Nat} (hf: ∀j,j<p→f j=j): ∀V:SV,(∀id∈Zd3 V,id<p)→rnV f V=V
 | .ref id i n m,hb=>by rw[rnV,hf id (hb id (by simp[Zd3]))]
 | .ptr id i r,hb=>by rw[rnV,hf id (hb id (by simp[Zd3]))]
 | .func g a c,hb=>by
  simp only[Zd3,List.mem_append]at hb
  rw[rnV,rnL_id hf a (fun id hi=>hb id (.inl hi)),rnL_id hf c (fun id hi=>hb id (.inr hi))]
 | .agg cs,hb=>by rw[rnV,rnL_id hf cs (by simpa only[Zd3]using hb)]
 | .tup cs,hb=>by rw[rnV,rnL_id hf cs (by simpa only[Zd3]using hb)]
 | .v _ _,_| .nilp,_| .nils,_| .nilf,_| .nili,_| .box _ _ _,_=>rfl
theorem rnL_id {f:Nat→Nat} {p:Nat} (hf: ∀j,j<p→f j=j): ∀l:List SV,(∀id∈rchL l,id<p)→rnL f l=l
 | [],_=>rfl
 |V::r,hb=>by
  simp only[rchL,List.mem_append]at hb
  rw[rnL,ZyG hf V (fun id hi=>hb id (.inl hi)),rnL_id hf r (fun id hi=>hb id (.inr hi))]
end
theorem Zs1 {f:Nat→Nat} {p:Nat} (hf: ∀j,j<p→f j=j) (m:SM) (hb: ∀id∈Zk3 m,id<p):rnM f m=m:=by
 cases m with
 |row t l b=>rfl
 |cell cs b=>rw[rnM,rnL_id hf cs (by simpa only[Zk3]using hb)]
 |many ct els b=>rw[rnM,rnL_id hf els (by simpa only[Zk3]using hb)]
 |dead=>rfl
theorem ZsR (f:Nat→Nat): ∀l:List SV,rnL f l=l.map (rnV f)
 | []=>rfl
 |v::r=>by rw[rnL,ZsR f r];rfl
theorem Zf5 {α:Type} {id:Nat}: ∀ {p:Nat} {xs:List (List α)},id∈rchL (Za4 p xs)→id<p+xs.length
 |p,x::r,hm=>by
  simp only[Za4,rchL,Zd3,List.mem_append,List.mem_singleton]at hm
  rw[List.length_cons]
  rcases hm with rfl|hm
  ·omega
  ·have:=Zf5 (p:=p+1) (xs:=r) hm
   omega
theorem Zj8 {ct:CT}: ∀ys:List (List ct.D),Zwa (.l ct) (ys.map fun x=>SV.v (.l ct) x)=some ys
 | []=>rfl
 |x::r=>by
  have e:ZbZ (.l ct) [.v (.l ct) x]=some x:=by
   show(if h:ceq ct ct=true then some (Zhl ct ct h x)else none)=some x
   rw[dif_pos (ZdV ct)]
   rfl
  rw[List.map_cons,Zwa,e,Zj8 r]
def ZzB (tm:TM):TM→Prop
 | []=>True
 |(i,V')::r=>Zcu i tm=some V'∧ZzB tm r
theorem Zpq {tm:TM}: ∀ {tm':TM} {i:Nat} {V:SV},ZzB tm tm'→Zcu i tm'=some V→Zcu i tm=some V
 | [],_,_,_,h=>by cases h
 |(j,W)::r,i,V,hs,h=>by
  simp only[Zcu]at h
  cases hb:Nat.beq i j with
  |true=>rw[hb]at h;cases h;rw[Nat.eq_of_beq_eq_true hb];exact hs.1
  |false=>rw[hb]at h;exact Zpq hs.2 h
theorem ZaO {F:Nat} {tm tm':TM} (htm:ZzB tm tm'):Ent F tm hp tm' hp:=
 ⟨fun φ st _ hs=>⟨φ,Fr.refl F φ,fun i V hi=>hs.tm i V (Zpq htm hi),hs.hp⟩⟩
theorem Ent.trans {F:Nat} {tm tm1 tm2:TM} {hp hp1 hp2:List SM} (h1:Ent F tm hp tm1 hp1) (h2:Ent F tm1 hp1 tm2 hp2):Ent F tm hp tm2 hp2:=by
 refine⟨fun φ st hF hs=> ?_⟩
 obtain⟨φ1,g1,g2⟩:=h1.out φ st hF hs
 obtain⟨φ2,g3,g4⟩:=h2.out φ1 st (by
  cases F with
  |zero=>exact Nat.zero_le _
  |succ n=>
   have e:=g1 n (Nat.lt_succ_self n)
   rw[List.getElem?_eq_getElem (show n<φ.length from hF)]at e
   exact(List.getElem?_eq_some_iff.1 e).1) g2
 exact⟨φ2,g1.trans g3,g4⟩
structure CodeOK (P:Program) (h:Hints) (F:Nat) (c:Cx) (b:Code) (tm:TM) (hp:List SM) (k:Ex→TM→List SM→Prop):Prop where
 out: ∀φ st,F≤φ.length→SRep φ tm hp st→ ∃e st' φ' tm' hp',exS P h (lim P h) c b st=some (e,st')∧Fr F φ φ'∧SRep φ' tm' hp' st'∧k e tm' hp'
theorem Zbs (hT:TysOK P T) {c:Cx} {b:Code} {k:Ex→TM→List SM→Prop} (hw:wp P h T F c b tm hp k):CodeOK P h F c b tm hp k:=⟨fun φ st hF hs=>ZkD hT c b tm hp k φ st hw hF hs⟩
theorem ZaV {c:Cx} {a b:Code} {k:Ex→TM→List SM→Prop} (hw:CodeOK P h F c a tm hp (Zx6 k fun tm' hp'=>CodeOK P h F c b tm' hp' k)):CodeOK P h F c (.seq a b) tm hp k:=by
 refine⟨fun φ st hF hs=> ?_⟩
 obtain⟨e,st1,φ1,tm1,hp1,h1,h2,h3,h4⟩:=hw.out φ st hF hs
 cases e with
 |normal=>
  obtain⟨e,st',φ',tm',hp',g1,g2,g3,g4⟩:=CodeOK.out h4 φ1 st1 (h2.len hF) h3
  exact⟨e,st',φ',tm',hp',by simp only[exS,h1,Option.bind_some,ZeV,g1],h2.trans g2,g3,g4⟩
 |exit j=>exact⟨_,st1,φ1,tm1,hp1,by simp only[exS,h1,Option.bind_some,ZeV],h2,h3,h4⟩
 |ret=>exact⟨_,st1,φ1,tm1,hp1,by simp only[exS,h1,Option.bind_some,ZeV],h2,h3,h4⟩
theorem CodeOK.ent {c:Cx} {b:Code} {k:Ex→TM→List SM→Prop} {tm':TM} {hp':List SM} (hl:CodeOK P h F c b tm' hp' k) (he:Ent F tm hp tm' hp'):CodeOK P h F c b tm hp k:=
 ⟨fun φ st hF hs=>by
  obtain⟨φ1,h1,h2⟩:=he.out φ st hF hs
  obtain⟨e,st',φ',tm',hp',f1,f2,f3,f4⟩:=hl.out φ1 st (h1.len hF) h2
  exact⟨e,st',φ',tm',hp',f1,h1.trans f2,f3,f4⟩⟩
theorem Zqs (hT:TysOK P T) {f:FuncId} {fn:Func} {code:Code} {Vs:List SV} {Q:SV→Prop} (hok:h.ok f=true) (hp:h.prim f=none) (hf:P.funcs[f]? =some fn) (hb:fn.body=some code) (hn:Vs.length≤fn.ntmps)
 (hw:CodeOK P h 0 ⟨f,0,fn.ntmps⟩ code (Zch 0 Vs) [] (Zu1 T fn.results.toList fun V hp=>Zgb hp 40 V Q)):PureOK P h f Vs Q:=by
 refine⟨fun qs hr=> ?_⟩
 obtain⟨e,st',φ',tm',hp',h1,h2,h3,h4⟩:=hw.out [] ⟨Zbb 0 qs,[]⟩ (Nat.zero_le _) ⟨Zhs hr,RH.empty⟩
 obtain⟨v,V,h5,h6,h7⟩:=ZsW hT h3 h4
 have hrn:(lim P h).rn f qs []=some (v,st'.hp):=by
  refine ZvV hok hf hb (by rw[←hr.len];exact hn) ?_
  show(exS P h (lim P h) ⟨f,0,fn.ntmps⟩ code ⟨Zbb 0 qs,[]⟩).bind _=_
  rw[h1,Option.bind_some]
  exact h5
 obtain⟨q',V',g1,g2,g3,_⟩:=ZhJ h3.hp 40 V v Q h7 h6
 refine⟨q',V', ?_,g2,g3⟩
 simp only[Zbr,hp,hrn,Option.bind_some]
 exact g1
theorem Zcc {a b:Operand} {t e:TypeId} {kk:IntKind} {j:Int} {id i n:Nat} {o:Option Nat} {ct:CT} {l:List ct.D} {bb:Bool} {k:SV→List SM→Prop} (ho:op= .indexAddr t a b) (ha:evS tm a=some (.ref id i n o)) (hb:evS tm b=some (.v (.i kk) j)) (hk1:(T t).k= .slice e) (h3:Zdz (T e).k=false) (hn:nth hp id=some (.row ct l bb)) (hz:Nat.beq ct.w (T e).sz=true) (hj:0≤j∧j<n) (hk:k (.ptr id (i+j.toNat) 0) hp):opT P h T op tm hp k:=by
 subst ho
 simp only[opT,ha,hb,Zds,hk1]
 generalize hkk:(T e).k=q at*
 cases q<;>first|(cases h3;done)|exact Zxw hn hz hj hk
theorem ZaZ {a b:Operand} {t e:TypeId} {kk:IntKind} {j:Int} {id i n:Nat} {o:Option Nat} {ct:CT} {l:List SV} {bb:Bool} {k:SV→List SM→Prop} (ho:op= .indexAddr t a b) (ha:evS tm a=some (.ref id i n o)) (hb:evS tm b=some (.v (.i kk) j)) (hk1:(T t).k= .slice e) (h3:Zdz (T e).k=false) (hn:nth hp id=some (.many ct l bb)) (hz:Nat.beq 1 (T e).sz=true) (hj:0≤j∧j<n) (hk:k (.ptr id (i+j.toNat) 0) hp):opT P h T op tm hp k:=by
 subst ho
 simp only[opT,ha,hb,Zds,hk1]
 have hg:ixT (T e).sz hp (.ref id i n o) j (fun V=>k V hp):=by
  simp only[ixT,hn]
  rw[hz]
  exact⟨hj,hk⟩
 generalize hkk:(T e).k=q at*
 cases q<;>first|(cases h3;done)|exact hg
theorem ZiB {a b:Operand} {t:TypeId} {id i:Nat} {x:SV} {ct:CT} {l:List SV} {k:SV→List SM→Prop} (ho:op= .store t a b) (ha:evS tm a=some (.ptr id i 0)) (hb:evS tm b=some x) (hn:nth hp id=some (.many ct l true)) (h1:(Zbl x&&Nat.beq (Za5 x).length (T t).sz)=true) (h2:ZoC x=true) (h3:Zdz (T t).k=false) (hi:i<l.length) (hk:k (.tup []) (hp.set id (.many ct (l.set i x) true))):opT P h T op tm hp k:=by
 subst ho
 simp only[opT,ha,hb,ZgN,h1,hn]
 refine⟨hi, ?_⟩
 rw[h2]
 generalize(T t).k=q at*
 cases q<;>first|(cases h3;done)|exact hk
theorem Zbj {a:Operand} {t:TypeId} {id i:Nat} {V:SV} {ct:CT} {l:List SV} {bb:Bool} {k:SV→List SM→Prop} (ho:op= .load t a) (ha:evS tm a=some (.ptr id i 0)) (hn:nth hp id=some (.many ct l bb)) (hv:l[i]? =some V) (h1:Zf4 (T t) [V] 0=some V) (hk:k V hp):opT P h T op tm hp k:=by
 subst ho
 simp only[opT,ha,ZiC,hn]
 exact⟨V,hv,by rw[h1];exact hk⟩
end
end Go.Tx
