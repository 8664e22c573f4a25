/-
 Matrices of own rows: two rows change places; a slice without memory seen as an empty row; a row that was built anew behind the matrix.
-/
import Derived.Test.YtgngdcpglnfkeaaDoorTxE
set_option linter.constructorNameAsVariable false
set_option linter.unusedSimpArgs false
set_option linter.unusedVariables false
namespace Go.Tx
open Go.Am
section
variable {P : Program} {h : Hints} {T : TypeId → TI} {hp : List SM} {tm : TM}
mutual
theorem Zu4 {f:Nat→Nat}: ∀V:SV,(∀id∈Zcz V,f id=id)→rnV f V=V
 | .ref id i n m,hb=>by rw[rnV,hb id (by simp[Zcz])]
 | .ptr id i r,hb=>by rw[rnV,hb id (by simp[Zcz])]
 | .func g a c,hb=>by
  simp only[Zcz,List.mem_append]at hb
  rw[rnV,rnL_ok a (fun id hi=>hb id (.inl hi)),rnL_ok c (fun id hi=>hb id (.inr hi))]
 | .agg cs,hb=>by rw[rnV,rnL_ok cs (by simpa only[Zcz]using hb)]
 | .tup cs,hb=>by rw[rnV,rnL_ok cs (by simpa only[Zcz]using hb)]
 | .v _ _,_| .nilp,_| .nils,_| .nilf,_| .nili,_| .nilmp,_| .box _ _ _,_=>rfl
 | .mp id,hb=>by rw[rnV,hb id (by simp[Zcz])]
theorem rnL_ok {f:Nat→Nat}: ∀l:List SV,(∀id∈rchL l,f id=id)→rnL f l=l
 | [],_=>rfl
 |v::r,hb=>by
  simp only[rchL,List.mem_append]at hb
  rw[rnL,Zu4 v (fun id hi=>hb id (.inl hi)),rnL_ok r (fun id hi=>hb id (.inr hi))]
end
def swI (a b j:Nat):Nat:=if j=a then b else if j=b then a else j
end
end Go.Tx
/-
 Loops and blocks of code that is known by what it does.
-/
namespace Go.Tx
open Go.Am
section
variable {P : Program} {h : Hints} {T : TypeId → TI} {hp : List SM} {tm : TM} {F : Nat}
theorem CodeOK.mono {c:Cx} {b:Code} {k k':Ex→TM→List SM→Prop} (hl:CodeOK P h F c b tm hp k) (hk: ∀e tm hp,k e tm hp→k' e tm hp):CodeOK P h F c b tm hp k':=
 ⟨fun φ st hF hs=>by
  obtain⟨e,st',φ',tm',hp',f1,f2,f3,f4⟩:=hl.out φ st hF hs
  exact⟨e,st',φ',tm',hp',f1,f2,f3,hk _ _ _ f4⟩⟩
theorem Ze9 {op:Op} {ct:CT} {by_ id n id2:Nat} {m2:Option Nat} {b:Bool} {l:List ct.D} {x:ct.D} {k:SV→List SM→Prop}
 {c:Call} {t t2 e e2:TypeId} {ts:List TypeId} (ho:op= .call c) (hc:c.callee= .builtin .append) (ha:evL tm c.args.toList=some [.ref id 0 n none, .ref id2 0 1 m2]) (ht:c.argTypes.toList=t::t2::ts) (hk1:(T t).k= .slice e) (hk2:(T t2).k= .slice e2) (hct:(T e).ct=some ct) (hby:(T e).by_=by_) (hok:(ZcQ (T e).k,Nat.ble 1 (T e).by_&&Nat.ble 1 (T e).sz,h.frz t)=(false,true,false))
 (hn:nth hp id=some (.row ct l true)) (hn2:nth hp id2=some (.row ct [x] b)) (hl:n=l.length) (hz:(n+1)*by_≤140737488355328)
 (hk:k (.ref hp.length 0 (n+1) none) (hp.set id .dead++ [.row ct (l++ [x]) true])):opT P h T op tm hp k:=by
 have hg:ZoK ct hp (.ref id2 0 1 m2) (fun new=>ZqN ct by_ hp (.ref id 0 n none) new k):=by
  refine Zm0 hn2 (Nat.le_refl 1) ?_
  refine ZmX hn (by rw[hl];omega) hz ?_
  have e1:sub l 0 n=l:=by rw[sub,List.drop_zero,List.take_of_length_le (by omega)]
  have e2:sub [x] 0 1=[x]:=rfl
  rw[e1]
  exact hk
 simp only[Prod.mk.injEq]at hok
 obtain⟨ok1,ok2,ok3⟩:=hok
 simp only[ho,opT,Zmw,ha,hc,ZgA,ht,hk1,hk2,hct,ok2,ok3]
 subst hby
 generalize(T e).k=kk at*
 cases kk<;>first|(cases ok1;done)|exact hg
theorem Za4 {t:CT} {x:t.D} {n:Nat}: ∀id∈Zcz (.v t x),id<n:=fun _ h=>absurd h List.not_mem_nil
theorem ZeU {i a l n:Nat} {o:Option Nat} (h:i<n): ∀id∈Zcz (.ref i a l o),id<n:=fun id hid=>by rw[List.mem_singleton.1 hid];exact h
theorem ZaS {i a l n:Nat} (h:i<n): ∀id∈Zcz (.ptr i a l),id<n:=fun id hid=>by rw[List.mem_singleton.1 hid];exact h
end
end Go.Tx
/-
 'append' onto rows held by content; one row that is left of all memory; more rules for looked-ahead values.
-/
namespace Go.Tx
open Go.Am
section
variable {P : Program} {h : Hints} {T : TypeId → TI} {hp : List SM} {tm : TM} {F : Nat}
theorem ZaC {c:Cx} {k:Ex→TM→List SM→Prop} (hn:k .ret tm hp):wp P h T F c .ret tm hp k:=hn
theorem Zay {k:Ex→TM→List SM→Prop} {n:TM→List SM→Prop} (hn:k .ret tm hp):Zvs k n .ret tm hp:=hn
theorem Zax {id:Nat} {k:Ex→TM→List SM→Prop} (hn:k .ret tm hp):ZuV id k .ret tm hp:=hn
theorem Zav {σ:Type} {ctm:σ→TM} {chp:σ→List SM} {Inv:σ→Prop} {meas:σ→Nat} {a:σ} {k:Ex→TM→List SM→Prop} (hn:k .ret tm hp):ZuM F ctm chp Inv meas a k .ret tm hp:=hn
theorem Zfs {α:Type} {l:List α} {n:Nat} {x:α} (h:nth l n=some x):n<l.length:=by
 rw[Za1]at h;exact(List.getElem?_eq_some_iff.1 h).1
theorem ZkO {α:Type} {l:List α} {i n:Nat} {x:α} (h:i≠n):nth (l.set i x) n=nth l n:=by rw[Za1,Za1,List.getElem?_set_ne h]
theorem Zs4 {id j:Nat} (h:id≠j):nth (frz1 hp id) j=nth hp j:=by
 unfold frz1
 split<;>first|rfl|exact ZkO h
theorem ZmF {j:Nat}: ∀ {ids:List Nat} {hp:List SM},j ∉ ids→nth (frzT hp ids) j=nth hp j
 | [],_,_=>rfl
 |i::r,hp,h=>by
  rw[frzT,ZmF fun h1=>h (List.mem_cons_of_mem _ h1)]
  exact Zs4 fun e=>h (by rw[e];exact List.mem_cons_self)
theorem Zsh {id:Nat}:(frz1 hp id).length=hp.length:=by
 unfold frz1
 split<;>first|rfl|exact List.length_set
theorem Zjy: ∀ {ids:List Nat} {hp:List SM},(frzT hp ids).length=hp.length
 | [],_=>rfl
 |i::r,hp=>by rw[frzT,Zjy,Zsh]
theorem Zuz {ct:CT} {xs:List ct.D} {kk:List ct.D→Prop} (h:kk xs):ZoK ct hp (.v (.l ct) xs) kk:=by
 simp only[ZoK]
 rw[dif_pos (Zc3 ct)]
 exact h
theorem ZdI {op:Op} {ct:CT} {by_ id n:Nat} {X:SV} {l:List ct.D} {x:ct.D} {k:SV→List SM→Prop}
 {c:Call} {t t2 e e2:TypeId} {ts:List TypeId} (ho:op= .call c) (hc:c.callee= .builtin .append) (ha:evL tm c.args.toList=some [.ref id 0 n none,X]) (ht:c.argTypes.toList=t::t2::ts) (hk1:(T t).k= .slice e) (hk2:(T t2).k= .slice e2) (hct:(T e).ct=some ct) (hby:(T e).by_=by_) (hok:(ZcQ (T e).k,Nat.ble 1 (T e).by_&&Nat.ble 1 (T e).sz,h.frz t)=(false,true,true))
 (hX: ∀kk:SV→Prop,kk (.v (.l ct) [x])→Zkm hp 40 X kk) (hni:id ∉ Ziv hp 40 X) (hn:nth hp id=some (.row ct l true)) (hl:n=l.length) (hz:(n+1)*by_≤140737488355328)
 (hk: ∀id' hp',nth hp' id'=some (.row ct (l++ [x]) true)→(∀j,j≠id→j ∉ Ziv hp 40 X→j<hp.length→nth hp' j=nth hp j)→hp.length≤id'→k (.ref id' 0 (n+1) none) hp'):opT P h T op tm hp k:=by
 have hg:Zkm hp 40 X fun V=>ZoK ct [] V fun new=>ZqN ct by_ (frzT hp (Ziv hp 40 X)) (.ref id 0 n none) new k:=by
  refine hX _ (Zuz ?_)
  refine ZmX (by rw[ZmF hni];exact hn) (by rw[hl];omega) hz ?_
  have e1:sub l 0 n=l:=by rw[sub,List.drop_zero,List.take_of_length_le (by omega)]
  rw[e1]
  refine hk _ _ ?_ (fun j hj hjx hjl=> ?_) (by rw[Zjy];exact Nat.le_refl _)
  ·rw[Za1,List.getElem?_append_right (by rw[List.length_set];exact Nat.le_refl _),List.length_set,Nat.sub_self];rfl
  ·rw[Za1,List.getElem?_append_left (by rw[List.length_set,Zjy];exact hjl),List.getElem?_set_ne (fun e=>hj e.symm),←Za1,ZmF hjx]
 simp only[Prod.mk.injEq]at hok
 obtain⟨ok1,ok2,ok3⟩:=hok
 simp only[ho,opT,Zmw,ha,hc,ZgA,ht,hk1,hk2,hct,ok2,ok3]
 subst hby
 generalize(T e).k=kk at*
 cases kk<;>first|(cases ok1;done)|exact hg
variable {N i dd : Nat} {ls : List Nat} {l : List Oper} {o : Oper} {ks : List (Nat × Nat × Bool)} {kk : TM → List SM → Prop} {V : SV}
end
end Go.Tx
/-
 'append' while rows were looked at ahead; some rows of a heap in an order of their own.
-/
namespace Go.Tx
open Go.Am
section
variable {P : Program} {h : Hints} {T : TypeId → TI} {hp : List SM} {tm : TM} {N i : Nat} {ls : List Nat} {l : List Oper} {o : Oper} {ks : List (Nat × Nat × Bool)} {kk : TM → List SM → Prop} {V : SV}
def ZoZ (hp:List SM):List Nat→List SM→Prop
 | [],[]=>True
 |i::is,m::ms=>nth hp i=some m∧Zhk m=[]∧ZoZ hp is ms
 |_,_=>False
theorem Zp8: ∀ {is:List Nat} {ms:List SM},ZoZ hp is ms→is.length=ms.length∧ ∀ (j:Nat) (x:SM),ms[j]? =some x→ ∃i,is[j]? =some i∧nth hp i=some x∧Zhk x=[]
 | [],[],_=>⟨rfl,fun j x h=>by simp at h⟩
 | [],_::_,h=>h.elim
 |_::_,[],h=>h.elim
 |i::is,m::ms,⟨h1,h2,h3⟩=>by
  obtain⟨g1,g2⟩:=Zp8 h3
  refine⟨by simp[g1],fun j x hx=> ?_⟩
  cases j with
  |zero=>cases hx;exact⟨i,rfl,h1,h2⟩
  |succ j=>exact g2 j x hx
theorem Znv: ∀ {l:List Nat} {a b x:Nat},l.Nodup→l[a]? =some x→l[b]? =some x→a=b
 | [],_,_,_,_,h,_=>by simp at h
 |i::r,0,0,_,_,_,_=>rfl
 |i::r,0,b+1,x,hn,h1,h2=>by
  cases h1
  rw[List.getElem?_cons_succ]at h2
  exact absurd (List.mem_of_getElem? h2) (List.nodup_cons.1 hn).1
 |i::r,a+1,0,x,hn,h1,h2=>by
  cases h2
  rw[List.getElem?_cons_succ]at h1
  exact absurd (List.mem_of_getElem? h1) (List.nodup_cons.1 hn).1
 |i::r,a+1,b+1,x,hn,h1,h2=>congrArg (· +1) (Znv (l:=r) (List.nodup_cons.1 hn).2 h1 h2)
theorem Zsa {tm':TM} (is:List Nat) {ms:List SM} (hk:ZoZ hp is ms) (hnd:is.Nodup) (htm:ZrG (fun j=>is.getD j 0) ms.length tm tm'):Ent 0 tm hp tm' ms:=by
 obtain⟨hl,hat⟩:=Zp8 hk
 have hget: ∀j,j<ms.length→ ∃x i,ms[j]? =some x∧is[j]? =some i∧is.getD j 0=i∧nth hp i=some x∧Zhk x=[]:=fun j hj=>by
  obtain⟨i,g1,g2,g3⟩:=hat j ms[j] (List.getElem?_eq_getElem hj)
  exact⟨ms[j],i,List.getElem?_eq_getElem hj,g1,by rw[List.getD_eq_getElem?_getD,g1];rfl,g2,g3⟩
 refine ZlK (fun j=>is.getD j 0) (Nat.zero_le _) (fun j hj=>absurd hj (Nat.not_lt_zero j)) (fun j hj=> ?_) (fun a b ha hb hab=> ?_) htm fun j x hx=> ?_
 ·obtain⟨x,i,_,_,g3,g4,_⟩:=hget j hj
  show is.getD j 0<_
  rw[g3]
  exact Zfs g4
 ·obtain⟨_,i,_,g2,g3,_⟩:=hget a ha
  obtain⟨_,i',_,g2',g3',_⟩:=hget b hb
  have hab:is.getD a 0=is.getD b 0:=hab
  rw[g3,g3']at hab
  subst hab
  exact Znv hnd g2 g2'
 ·obtain⟨hj,_⟩:=List.getElem?_eq_some_iff.1 hx
  obtain⟨y,i,g1,_,g3,g4,g5⟩:=hget j hj
  rw[g1]at hx
  cases hx
  refine .inr ⟨?_,fun id hid=>by rw[g5]at hid;exact absurd hid List.not_mem_nil⟩
  show hp[is.getD j 0]? =_
  rw[g3,←Za1,g4,ZsB (p:=0) (fun j hj=>absurd hj (Nat.not_lt_zero j)) x (fun id hid=>by rw[g5]at hid;exact absurd hid List.not_mem_nil)]
theorem Zvx {op:Op} {t:TypeId} {x j:Operand} {id:Nat} {s:List UInt8} {ks:List (List UInt8)} {k:SV→List SM→Prop} (ho:op= .lookup t x j false) (hk1:(T t).k= .smap) (hx:evS tm x=some (.mp id)) (hj:evS tm j=some (.v .s s)) (hn:nth hp id=some (.set ks)) (hk:k (.v .b (ZoO s ks)) hp):opT P h T op tm hp k:=by
 simp only[ho,opT,hk1,hx,hj,hn]
 exact hk
theorem Zwu {op:Op} {t:TypeId} {m j x:Operand} {id:Nat} {s:List UInt8} {ks:List (List UInt8)} {k:SV→List SM→Prop} (ho:op= .mapUpdate t m j x) (hk1:(T t).k= .smap) (hm:evS tm m=some (.mp id)) (hj:evS tm j=some (.v .s s)) (hx:evS tm x=some (.v .b true)) (hn:nth hp id=some (.set ks)) (hk:k (.tup []) (hp.set id (.set (ZqU s ks)))):opT P h T op tm hp k:=by
 simp only[ho,opT,hk1,hm,hj,hx,hn]
 exact hk
theorem Zjt {s:List UInt8}: ∀ {ks:List (List UInt8)},ZoO s ks=false→ZqU s ks=ks++ [s]
 | [],_=>rfl
 |k::r,h=>by
  rw[ZoO]at h
  rw[ZqU]
  cases hb:(s==k)with
  |true=>rw[hb]at h;cases h
  |false=>rw[hb]at h;rw[cond_false,Zjt h];rfl
end
end Go.Tx
