/-
 'append' onto rows held by content; one row that is left of all memory; more rules for looked-ahead values.
-/
import Derived.Test.YtbdkglokkepmfaaDoorTxG
set_option linter.constructorNameAsVariable false
set_option linter.unusedSimpArgs false
set_option linter.unusedVariables false
namespace Go.Tx
open Go.Am
section
variable {P : Program} {h : Hints} {T : TypeId → TI} {hp : List SM} {tm : TM} {F : Nat}
theorem ZaL {c:Cx} {k:Ex→TM→List SM→Prop} (hn:k .ret tm hp):wp P h T F c .ret tm hp k:=hn
theorem ZaA {k:Ex→TM→List SM→Prop} {n:TM→List SM→Prop} (hn:k .ret tm hp):ZuI k n .ret tm hp:=hn
theorem Zaz {id:Nat} {k:Ex→TM→List SM→Prop} (hn:k .ret tm hp):Ztx id k .ret tm hp:=hn
theorem Zat {σ:Type} {ctm:σ→TM} {chp:σ→List SM} {Inv:σ→Prop} {meas:σ→Nat} {a:σ} {k:Ex→TM→List SM→Prop} (hn:k .ret tm hp):Zuj F ctm chp Inv meas a k .ret tm hp:=hn
theorem Zhn {tm tm':TM} {id:Nat} {m:SM} (hm:nth hp id=some m) (hr:ZgO m=[]) (htm:ZpL (fun _=>id) 1 tm tm'):Ent 0 tm hp tm' [m]:=by
 rw[Za4]at hm
 refine ZjE (fun _=>id) (Nat.zero_le _) (fun j hj=>absurd hj (Nat.not_lt_zero j)) (fun j _=>(List.getElem?_eq_some_iff.1 hm).1) (fun i j hi hj _=> ?_) htm fun j x hx=> ?_
 ·have hi:i<1:=hi
  have hj:j<1:=hj
  omega
 ·have hjl:=(List.getElem?_eq_some_iff.1 hx).1
  have e:j=0:=by have h1:j<1:=hjl;omega
  subst e
  cases hx
  refine .inr ⟨?_,fun id hid=>by rw[hr]at hid;exact absurd hid List.not_mem_nil⟩
  rw[hm,ZoK (p:=0) (fun j hj=>absurd hj (Nat.not_lt_zero j)) m (fun id hid=>by rw[hr]at hid;exact absurd hid List.not_mem_nil)]
theorem Zn7 {α:Type} {l:List α} {n:Nat} {x:α} (h:nth l n=some x):n<l.length:=by
 rw[Za4]at h;exact(List.getElem?_eq_some_iff.1 h).1
theorem ZkJ {α:Type} {l:List α} {i n:Nat} {x:α} (h:i≠n):nth (l.set i x) n=nth l n:=by rw[Za4,Za4,List.getElem?_set_ne h]
theorem Zsc {id j:Nat} (h:id≠j):nth (frz1 hp id) j=nth hp j:=by
 unfold frz1
 split<;>first|rfl|exact ZkJ h
theorem Zlv {j:Nat}: ∀ {ids:List Nat} {hp:List SM},j ∉ ids→nth (frzT hp ids) j=nth hp j
 | [],_,_=>rfl
 |i::r,hp,h=>by
  rw[frzT,Zlv fun h1=>h (List.mem_cons_of_mem _ h1)]
  exact Zsc fun e=>h (by rw[e];exact List.mem_cons_self)
theorem Zqp {id:Nat}:(frz1 hp id).length=hp.length:=by
 unfold frz1
 split<;>first|rfl|exact List.length_set
theorem Zi4: ∀ {ids:List Nat} {hp:List SM},(frzT hp ids).length=hp.length
 | [],_=>rfl
 |i::r,hp=>by rw[frzT,Zi4,Zqp]
theorem Zul {ct:CT} {xs:List ct.D} {kk:List ct.D→Prop} (h:kk xs):ZoS ct hp (.v (.l ct) xs) kk:=by
 simp only[ZoS]
 rw[dif_pos (Zew ct)]
 exact h
theorem Zdr {op:Op} {ct:CT} {by_ id n:Nat} {X:SV} {l:List ct.D} {x:ct.D} {k:SV→List SM→Prop}
 {c:Call} {t t2 e e2:TypeId} {ts:List TypeId} (ho:op= .call c) (hc:c.callee= .builtin .append) (ha:evL tm c.args.toList=some [.ref id 0 n none,X]) (ht:c.argTypes.toList=t::t2::ts) (hk1:(T t).k= .slice e) (hk2:(T t2).k= .slice e2) (hct:(T e).ct=some ct) (hby:(T e).by_=by_) (hok:(Zhs (T e).k,Nat.ble 1 (T e).by_&&Nat.ble 1 (T e).sz,h.frz t)=(false,true,true))
 (hX: ∀kk:SV→Prop,kk (.v (.l ct) [x])→ZjN hp 40 X kk) (hni:id ∉ Zh3 hp 40 X) (hn:nth hp id=some (.row ct l true)) (hl:n=l.length) (hz:(n+1)*by_≤140737488355328)
 (hk: ∀id' hp',nth hp' id'=some (.row ct (l++ [x]) true)→(∀j,j≠id→j ∉ Zh3 hp 40 X→j<hp.length→nth hp' j=nth hp j)→hp.length≤id'→k (.ref id' 0 (n+1) none) hp'):opT P h T op tm hp k:=by
 have hg:ZjN hp 40 X fun V=>ZoS ct [] V fun new=>Zrj ct by_ (frzT hp (Zh3 hp 40 X)) (.ref id 0 n none) new k:=by
  refine hX _ (Zul ?_)
  refine Zmt (by rw[Zlv hni];exact hn) (by rw[hl];omega) hz ?_
  have e1:sub l 0 n=l:=by rw[sub,List.drop_zero,List.take_of_length_le (by omega)]
  rw[e1]
  refine hk _ _ ?_ (fun j hj hjx hjl=> ?_) (by rw[Zi4];exact Nat.le_refl _)
  ·rw[Za4,List.getElem?_append_right (by rw[List.length_set];exact Nat.le_refl _),List.length_set,Nat.sub_self];rfl
  ·rw[Za4,List.getElem?_append_left (by rw[List.length_set,Zi4];exact hjl),List.getElem?_set_ne (fun e=>hj e.symm),←Za4,Zlv hjx]
 simp only[Prod.mk.injEq]at hok
 obtain⟨ok1,ok2,ok3⟩:=hok
 simp only[ho,opT,ZoX,ha,hc,ZhB,ht,hk1,hk2,hct,ok2,ok3]
 subst hby
 generalize(T e).k=kk at*
 cases kk<;>first|(cases ok1;done)|exact hg
variable {N i dd : Nat} {ls : List Nat} {l : List Oper} {o : Oper} {ks : List (Nat × Nat × Bool)} {kk : TM → List SM → Prop} {V : SV}
end
end Go.Tx
