/-
 Matrices of own rows: two rows change places; a slice without memory seen as an empty row; a row that was built anew behind the matrix.
-/
import Derived.Test.YtgmjnhiakpcpbaaGreatDoorTxE
set_option linter.constructorNameAsVariable false
set_option linter.unusedSimpArgs false
set_option linter.unusedVariables false
namespace Go.Tx
open Go.Am
section
variable {P : Program} {h : Hints} {T : TypeId → TI} {hp : List SM} {tm : TM}
mutual
theorem ZtM {f:Nat→Nat}: ∀V:SV,(∀id∈ZcZ V,f id=id)→rnV f V=V
 | .ref id i n m,hb=>by rw[rnV,hb id (by simp[ZcZ])]
 | .ptr id i r,hb=>by rw[rnV,hb id (by simp[ZcZ])]
 | .func g a c,hb=>by
  simp only[ZcZ,List.mem_append]at hb
  rw[rnV,rnL_ok a (fun id hi=>hb id (.inl hi)),rnL_ok c (fun id hi=>hb id (.inr hi))]
 | .agg cs,hb=>by rw[rnV,rnL_ok cs (by simpa only[ZcZ]using hb)]
 | .tup cs,hb=>by rw[rnV,rnL_ok cs (by simpa only[ZcZ]using hb)]
 | .v _ _,_| .nilp,_| .nils,_| .nilf,_| .nili,_| .nilmp,_| .box _ _ _,_=>rfl
 | .mp id,hb=>by rw[rnV,hb id (by simp[ZcZ])]
theorem rnL_ok {f:Nat→Nat}: ∀l:List SV,(∀id∈rchL l,f id=id)→rnL f l=l
 | [],_=>rfl
 |v::r,hb=>by
  simp only[rchL,List.mem_append]at hb
  rw[rnL,ZtM v (fun id hi=>hb id (.inl hi)),rnL_ok r (fun id hi=>hb id (.inr hi))]
end
def swI (a b j:Nat):Nat:=if j=a then b else if j=b then a else j
end
end Go.Tx
/-
 Loops and blocks of code that is known by what it does.
-/
namespace Go.Tx
open Go.Am
section
variable {P : Program} {h : Hints} {T : TypeId → TI} {hp : List SM} {tm : TM} {F : Nat}
theorem CodeOK.mono {c:Cx} {b:Code} {k k':Ex→TM→List SM→Prop} (hl:CodeOK P h F c b tm hp k) (hk: ∀e tm hp,k e tm hp→k' e tm hp):CodeOK P h F c b tm hp k':=
 ⟨fun φ st hF hs=>by
  obtain⟨e,st',φ',tm',hp',f1,f2,f3,f4⟩:=hl.out φ st hF hs
  exact⟨e,st',φ',tm',hp',f1,f2,f3,hk _ _ _ f4⟩⟩
theorem Zi5 {op:Op} {ct:CT} {by_ id n id2:Nat} {m2:Option Nat} {b:Bool} {l:List ct.D} {x:ct.D} {k:SV→List SM→Prop}
 {c:Call} {t t2 e e2:TypeId} {ts:List TypeId} (ho:op= .call c) (hc:c.callee= .builtin .append) (ha:evL tm c.args.toList=some [.ref id 0 n none, .ref id2 0 1 m2]) (ht:c.argTypes.toList=t::t2::ts) (hk1:(T t).k= .slice e) (hk2:(T t2).k= .slice e2) (hct:(T e).ct=some ct) (hby:(T e).by_=by_) (hok:(ZeI (T e).k,Nat.ble 1 (T e).by_&&Nat.ble 1 (T e).sz,h.frz t)=(false,true,false))
 (hn:nth hp id=some (.row ct l true)) (hn2:nth hp id2=some (.row ct [x] b)) (hl:n=l.length) (hz:(n+1)*by_≤140737488355328)
 (hk:k (.ref hp.length 0 (n+1) none) (hp.set id .dead++ [.row ct (l++ [x]) true])):opT P h T op tm hp k:=by
 have hg:ZoY ct hp (.ref id2 0 1 m2) (fun new=>Zrq ct by_ hp (.ref id 0 n none) new k):=by
  refine Zqj hn2 (Nat.le_refl 1) ?_
  refine Zmj hn (by rw[hl];omega) hz ?_
  have e1:sub l 0 n=l:=by rw[sub,List.drop_zero,List.take_of_length_le (by omega)]
  have e2:sub [x] 0 1=[x]:=rfl
  rw[e1]
  exact hk
 simp only[Prod.mk.injEq]at hok
 obtain⟨ok1,ok2,ok3⟩:=hok
 simp only[ho,opT,ZpB,ha,hc,ZhJ,ht,hk1,hk2,hct,ok2,ok3]
 subst hby
 generalize(T e).k=kk at*
 cases kk<;>first|(cases ok1;done)|exact hg
theorem Zas {t:CT} {x:t.D} {n:Nat}: ∀id∈ZcZ (.v t x),id<n:=fun _ h=>absurd h List.not_mem_nil
theorem Zbm {i a l n:Nat} {o:Option Nat} (h:i<n): ∀id∈ZcZ (.ref i a l o),id<n:=fun id hid=>by rw[List.mem_singleton.1 hid];exact h
theorem ZaL {i a l n:Nat} (h:i<n): ∀id∈ZcZ (.ptr i a l),id<n:=fun id hid=>by rw[List.mem_singleton.1 hid];exact h
end
end Go.Tx
/-
 'append' onto rows held by content; one row that is left of all memory; more rules for looked-ahead values.
-/
namespace Go.Tx
open Go.Am
section
variable {P : Program} {h : Hints} {T : TypeId → TI} {hp : List SM} {tm : TM} {F : Nat}
theorem ZaA {c:Cx} {k:Ex→TM→List SM→Prop} (hn:k .ret tm hp):wp P h T F c .ret tm hp k:=hn
theorem Zau {k:Ex→TM→List SM→Prop} {n:TM→List SM→Prop} (hn:k .ret tm hp):ZuR k n .ret tm hp:=hn
theorem Zav {id:Nat} {k:Ex→TM→List SM→Prop} (hn:k .ret tm hp):ZtF id k .ret tm hp:=hn
theorem Zar {σ:Type} {ctm:σ→TM} {chp:σ→List SM} {Inv:σ→Prop} {meas:σ→Nat} {a:σ} {k:Ex→TM→List SM→Prop} (hn:k .ret tm hp):ZtS F ctm chp Inv meas a k .ret tm hp:=hn
theorem Zn9 {α:Type} {l:List α} {n:Nat} {x:α} (h:nth l n=some x):n<l.length:=by
 rw[Za1]at h;exact(List.getElem?_eq_some_iff.1 h).1
theorem Zkx {α:Type} {l:List α} {i n:Nat} {x:α} (h:i≠n):nth (l.set i x) n=nth l n:=by rw[Za1,Za1,List.getElem?_set_ne h]
theorem Zsb {id j:Nat} (h:id≠j):nth (frz1 hp id) j=nth hp j:=by
 unfold frz1
 split<;>first|rfl|exact Zkx h
theorem ZlT {j:Nat}: ∀ {ids:List Nat} {hp:List SM},j ∉ ids→nth (frzT hp ids) j=nth hp j
 | [],_,_=>rfl
 |i::r,hp,h=>by
  rw[frzT,ZlT fun h1=>h (List.mem_cons_of_mem _ h1)]
  exact Zsb fun e=>h (by rw[e];exact List.mem_cons_self)
theorem Zrh {id:Nat}:(frz1 hp id).length=hp.length:=by
 unfold frz1
 split<;>first|rfl|exact List.length_set
theorem Zi0: ∀ {ids:List Nat} {hp:List SM},(frzT hp ids).length=hp.length
 | [],_=>rfl
 |i::r,hp=>by rw[frzT,Zi0,Zrh]
theorem Zux {ct:CT} {xs:List ct.D} {kk:List ct.D→Prop} (h:kk xs):ZoY ct hp (.v (.l ct) xs) kk:=by
 simp only[ZoY]
 rw[dif_pos (Zec ct)]
 exact h
theorem Zdv {op:Op} {ct:CT} {by_ id n:Nat} {X:SV} {l:List ct.D} {x:ct.D} {k:SV→List SM→Prop}
 {c:Call} {t t2 e e2:TypeId} {ts:List TypeId} (ho:op= .call c) (hc:c.callee= .builtin .append) (ha:evL tm c.args.toList=some [.ref id 0 n none,X]) (ht:c.argTypes.toList=t::t2::ts) (hk1:(T t).k= .slice e) (hk2:(T t2).k= .slice e2) (hct:(T e).ct=some ct) (hby:(T e).by_=by_) (hok:(ZeI (T e).k,Nat.ble 1 (T e).by_&&Nat.ble 1 (T e).sz,h.frz t)=(false,true,true))
 (hX: ∀kk:SV→Prop,kk (.v (.l ct) [x])→ZjD hp 40 X kk) (hni:id ∉ ZhO hp 40 X) (hn:nth hp id=some (.row ct l true)) (hl:n=l.length) (hz:(n+1)*by_≤140737488355328)
 (hk: ∀id' hp',nth hp' id'=some (.row ct (l++ [x]) true)→(∀j,j≠id→j ∉ ZhO hp 40 X→j<hp.length→nth hp' j=nth hp j)→hp.length≤id'→k (.ref id' 0 (n+1) none) hp'):opT P h T op tm hp k:=by
 have hg:ZjD hp 40 X fun V=>ZoY ct [] V fun new=>Zrq ct by_ (frzT hp (ZhO hp 40 X)) (.ref id 0 n none) new k:=by
  refine hX _ (Zux ?_)
  refine Zmj (by rw[ZlT hni];exact hn) (by rw[hl];omega) hz ?_
  have e1:sub l 0 n=l:=by rw[sub,List.drop_zero,List.take_of_length_le (by omega)]
  rw[e1]
  refine hk _ _ ?_ (fun j hj hjx hjl=> ?_) (by rw[Zi0];exact Nat.le_refl _)
  ·rw[Za1,List.getElem?_append_right (by rw[List.length_set];exact Nat.le_refl _),List.length_set,Nat.sub_self];rfl
  ·rw[Za1,List.getElem?_append_left (by rw[List.length_set,Zi0];exact hjl),List.getElem?_set_ne (fun e=>hj e.symm),←Za1,ZlT hjx]
 simp only[Prod.mk.injEq]at hok
 obtain⟨ok1,ok2,ok3⟩:=hok
 simp only[ho,opT,ZpB,ha,hc,ZhJ,ht,hk1,hk2,hct,ok2,ok3]
 subst hby
 generalize(T e).k=kk at*
 cases kk<;>first|(cases ok1;done)|exact hg
variable {N i dd : Nat} {ls : List Nat} {l : List Oper} {o : Oper} {ks : List (Nat × Nat × Bool)} {kk : TM → List SM → Prop} {V : SV}
end
end Go.Tx
