/-
 Matrices of own rows: two rows change places; a slice without memory seen as an empty row; a row that was built anew behind the matrix.
-/
import Derived.Test.YtkhpbclcfldhmaaGreatDoorTxE
set_option linter.constructorNameAsVariable false
set_option linter.unusedSimpArgs false
set_option linter.unusedVariables false
namespace Go.Tx
open Go.Am
section
variable {P : Program} {h : Hints} {T : TypeId → TI} {hp : List SM} {tm : TM}
mutual
theorem Zxf {f:Nat→Nat}: ∀V:SV,(∀id∈ZdN V,f id=id)→rnV f V=V
 | .ref id i n m,hb=>by rw[rnV,hb id (by simp[ZdN])]
 | .ptr id i r,hb=>by rw[rnV,hb id (by simp[ZdN])]
 | .func g a c,hb=>by
  simp only[ZdN,List.mem_append]at hb
  rw[rnV,rnL_ok a (fun id hi=>hb id (.inl hi)),rnL_ok c (fun id hi=>hb id (.inr hi))]
 | .agg cs,hb=>by rw[rnV,rnL_ok cs (by simpa only[ZdN]using hb)]
 | .tup cs,hb=>by rw[rnV,rnL_ok cs (by simpa only[ZdN]using hb)]
 | .v _ _,_| .nilp,_| .nils,_| .nilf,_| .nili,_| .nilmp,_| .box _ _ _,_=>rfl
 | .mp id,hb=>by rw[rnV,hb id (by simp[ZdN])]
theorem rnL_ok {f:Nat→Nat}: ∀l:List SV,(∀id∈rchL l,f id=id)→rnL f l=l
 | [],_=>rfl
 |v::r,hb=>by
  simp only[rchL,List.mem_append]at hb
  rw[rnL,Zxf v (fun id hi=>hb id (.inl hi)),rnL_ok r (fun id hi=>hb id (.inr hi))]
end
def swI (a b j:Nat):Nat:=if j=a then b else if j=b then a else j
end
end Go.Tx
/-
 Loops and blocks of code that is known by what it does.
-/
namespace Go.Tx
open Go.Am
section
variable {P : Program} {h : Hints} {T : TypeId → TI} {hp : List SM} {tm : TM} {F : Nat}
theorem CodeOK.mono {c:Cx} {b:Code} {k k':Ex→TM→List SM→Prop} (hl:CodeOK P h F c b tm hp k) (hk: ∀e tm hp,k e tm hp→k' e tm hp):CodeOK P h F c b tm hp k':=
 ⟨fun φ st hF hs=>by
  obtain⟨e,st',φ',tm',hp',f1,f2,f3,f4⟩:=hl.out φ st hF hs
  exact⟨e,st',φ',tm',hp',f1,f2,f3,hk _ _ _ f4⟩⟩
theorem Zh0 {op:Op} {ct:CT} {by_ id n id2:Nat} {m2:Option Nat} {b:Bool} {l:List ct.D} {x:ct.D} {k:SV→List SM→Prop}
 {c:Call} {t t2 e e2:TypeId} {ts:List TypeId} (ho:op= .call c) (hc:c.callee= .builtin .append) (ha:evL tm c.args.toList=some [.ref id 0 n none, .ref id2 0 1 m2]) (ht:c.argTypes.toList=t::t2::ts) (hk1:(T t).k= .slice e) (hk2:(T t2).k= .slice e2) (hct:(T e).ct=some ct) (hby:(T e).by_=by_) (hok:(Zep (T e).k,Nat.ble 1 (T e).by_&&Nat.ble 1 (T e).sz,h.frz t)=(false,true,false))
 (hn:nth hp id=some (.row ct l true)) (hn2:nth hp id2=some (.row ct [x] b)) (hl:n=l.length) (hz:(n+1)*by_≤140737488355328)
 (hk:k (.ref hp.length 0 (n+1) none) (hp.set id .dead++ [.row ct (l++ [x]) true])):opT P h T op tm hp k:=by
 have hg:ZtT ct hp (.ref id2 0 1 m2) (fun new=>ZtS ct by_ hp (.ref id 0 n none) new k):=by
  refine Zn7 hn2 (Nat.le_refl 1) ?_
  refine Zpe hn (by rw[hl];omega) hz ?_
  have e1:sub l 0 n=l:=by rw[sub,List.drop_zero,List.take_of_length_le (by omega)]
  have e2:sub [x] 0 1=[x]:=rfl
  rw[e1]
  exact hk
 simp only[Prod.mk.injEq]at hok
 obtain⟨ok1,ok2,ok3⟩:=hok
 simp only[ho,opT,ZmZ,ha,hc,Zib,ht,hk1,hk2,hct,ok2,ok3]
 subst hby
 generalize(T e).k=kk at*
 cases kk<;>first|(cases ok1;done)|exact hg
theorem ZaA {t:CT} {x:t.D} {n:Nat}: ∀id∈ZdN (.v t x),id<n:=fun _ h=>absurd h List.not_mem_nil
theorem ZaY {i a l n:Nat} {o:Option Nat} (h:i<n): ∀id∈ZdN (.ref i a l o),id<n:=fun id hid=>by rw[List.mem_singleton.1 hid];exact h
theorem ZaZ {i a l n:Nat} (h:i<n): ∀id∈ZdN (.ptr i a l),id<n:=fun id hid=>by rw[List.mem_singleton.1 hid];exact h
end
end Go.Tx
/-
 'append' onto rows held by content; one row that is left of all memory; more rules for looked-ahead values.
-/
namespace Go.Tx
open Go.Am
section
variable {P : Program} {h : Hints} {T : TypeId → TI} {hp : List SM} {tm : TM} {F : Nat}
theorem Za9 {c:Cx} {k:Ex→TM→List SM→Prop} (hn:k .ret tm hp):wp P h T F c .ret tm hp k:=hn
theorem ZaT {k:Ex→TM→List SM→Prop} {n:TM→List SM→Prop} (hn:k .ret tm hp):ZxM k n .ret tm hp:=hn
theorem ZaS {id:Nat} {k:Ex→TM→List SM→Prop} (hn:k .ret tm hp):Zvg id k .ret tm hp:=hn
theorem ZaH {σ:Type} {ctm:σ→TM} {chp:σ→List SM} {Inv:σ→Prop} {meas:σ→Nat} {a:σ} {k:Ex→TM→List SM→Prop} (hn:k .ret tm hp):ZvF F ctm chp Inv meas a k .ret tm hp:=hn
theorem ZkT {c:Cx} {n0:TM→List SM→Prop} {id:Nat} {k:Ex→TM→List SM→Prop} (hn:k .normal tm hp):wp P h T F c (.exit id) tm hp (ZxM (Zvg id k) n0):=by
 show Zvg id k (.exit id) tm hp
 have e:Nat.beq id id=true:=Nat.beq_refl id
 simp only[Zvg,e]
 exact hn
theorem Zrc {α:Type} {l:List α} {n:Nat} {x:α} (h:nth l n=some x):n<l.length:=by
 rw[Za5]at h;exact(List.getElem?_eq_some_iff.1 h).1
theorem ZrW {α:Type} {l:List α} {i n:Nat} {x:α} (h:i≠n):nth (l.set i x) n=nth l n:=by rw[Za5,Za5,List.getElem?_set_ne h]
variable {N i dd : Nat} {ls : List Nat} {l : List Oper} {o : Oper} {ks : List (Nat × Nat × Bool)} {kk : TM → List SM → Prop} {V : SV}
theorem Zve {c:Call} (hi:has i ls=true) (ho:o.op= .call c) (hq:ZyP tm c=true) (he:opT P h T (.call c) tm hp fun W hp'=>ZdI N o.dst W tm fun tm'=>Za1 P h T N ls l (i+1) ks tm' hp' kk):Za1 P h T N ls (o::l) i ks tm hp kk:=by
 simp only[Za1,hi,ho,hq]
 exact he
theorem ZxE {t:TypeId} {x:Operand} {lo hi' mx:Option Operand} {ct:CT} {xs:List ct.D} (hi:has i ls=true) (ho:o.op= .slice t x lo hi' mx) (hx:evS tm x=some (.v (.l ct) xs)) (he:opT P h T (.slice t x lo hi' mx) tm hp fun W hp'=>ZdI N o.dst W tm fun tm'=>Za1 P h T N ls l (i+1) ks tm' hp' kk):Za1 P h T N ls (o::l) i ks tm hp kk:=by
 simp only[Za1,hi,ho,hx]
 exact he
end
end Go.Tx
/-
 'append' while rows were looked at ahead; some rows of a heap in an order of their own.
-/
namespace Go.Tx
open Go.Am
section
variable {P : Program} {h : Hints} {T : TypeId → TI} {hp : List SM} {tm : TM} {N i : Nat} {ls : List Nat} {l : List Oper} {o : Oper} {ks : List (Nat × Nat × Bool)} {kk : TM → List SM → Prop} {V : SV}
def Zsc (hp:List SM):List Nat→List SM→Prop
 | [],[]=>True
 |i::is,m::ms=>nth hp i=some m∧Zlf m=[]∧Zsc hp is ms
 |_,_=>False
theorem Zrm: ∀ {is:List Nat} {ms:List SM},Zsc hp is ms→is.length=ms.length∧ ∀ (j:Nat) (x:SM),ms[j]? =some x→ ∃i,is[j]? =some i∧nth hp i=some x∧Zlf x=[]
 | [],[],_=>⟨rfl,fun j x h=>by simp at h⟩
 | [],_::_,h=>h.elim
 |_::_,[],h=>h.elim
 |i::is,m::ms,⟨h1,h2,h3⟩=>by
  obtain⟨g1,g2⟩:=Zrm h3
  refine⟨by simp[g1],fun j x hx=> ?_⟩
  cases j with
  |zero=>cases hx;exact⟨i,rfl,h1,h2⟩
  |succ j=>exact g2 j x hx
theorem Zo1: ∀ {l:List Nat} {a b x:Nat},l.Nodup→l[a]? =some x→l[b]? =some x→a=b
 | [],_,_,_,_,h,_=>by simp at h
 |i::r,0,0,_,_,_,_=>rfl
 |i::r,0,b+1,x,hn,h1,h2=>by
  cases h1
  rw[List.getElem?_cons_succ]at h2
  exact absurd (List.mem_of_getElem? h2) (List.nodup_cons.1 hn).1
 |i::r,a+1,0,x,hn,h1,h2=>by
  cases h2
  rw[List.getElem?_cons_succ]at h1
  exact absurd (List.mem_of_getElem? h1) (List.nodup_cons.1 hn).1
 |i::r,a+1,b+1,x,hn,h1,h2=>congrArg (· +1) (Zo1 (l:=r) (List.nodup_cons.1 hn).2 h1 h2)
theorem ZaI {tm':TM} (is:List Nat) {ms:List SM} (hk:Zsc hp is ms) (hnd:is.Nodup) (htm:Zym (fun j=>is.getD j 0) ms.length tm tm'):Ent 0 tm hp tm' ms:=by
 obtain⟨hl,hat⟩:=Zrm hk
 have hget: ∀j,j<ms.length→ ∃x i,ms[j]? =some x∧is[j]? =some i∧is.getD j 0=i∧nth hp i=some x∧Zlf x=[]:=fun j hj=>by
  obtain⟨i,g1,g2,g3⟩:=hat j ms[j] (List.getElem?_eq_getElem hj)
  exact⟨ms[j],i,List.getElem?_eq_getElem hj,g1,by rw[List.getD_eq_getElem?_getD,g1];rfl,g2,g3⟩
 refine ZrG (fun j=>is.getD j 0) (Nat.zero_le _) (fun j hj=>absurd hj (Nat.not_lt_zero j)) (fun j hj=> ?_) (fun a b ha hb hab=> ?_) htm fun j x hx=> ?_
 ·obtain⟨x,i,_,_,g3,g4,_⟩:=hget j hj
  show is.getD j 0<_
  rw[g3]
  exact Zrc g4
 ·obtain⟨_,i,_,g2,g3,_⟩:=hget a ha
  obtain⟨_,i',_,g2',g3',_⟩:=hget b hb
  have hab:is.getD a 0=is.getD b 0:=hab
  rw[g3,g3']at hab
  subst hab
  exact Zo1 hnd g2 g2'
 ·obtain⟨hj,_⟩:=List.getElem?_eq_some_iff.1 hx
  obtain⟨y,i,g1,_,g3,g4,g5⟩:=hget j hj
  rw[g1]at hx
  cases hx
  refine .inr ⟨?_,fun id hid=>by rw[g5]at hid;exact absurd hid List.not_mem_nil⟩
  show hp[is.getD j 0]? =_
  rw[g3,←Za5,g4,ZxT (p:=0) (fun j hj=>absurd hj (Nat.not_lt_zero j)) x (fun id hid=>by rw[g5]at hid;exact absurd hid List.not_mem_nil)]
theorem ZpR {op:Op} {c:Call} {f:FuncId} {V W:SV} {k:SV→List SM→Prop} (ho:op= .call c) (hc:c.callee= .value (.func f)) (ha:evL tm c.args.toList=some [V,W]) (h1:h.opn f=false) (h2:h.imp f=false) (h3:h.mem f=true) (he:Zla hp 40 V fun v=>Zla hp 40 W fun w=>PureOK P h f [v,w] fun R=>k R (frzT hp (Zqk hp [V,W]))):opT P h T op tm hp k:=by
 subst ho
 simp only[opT,ZmZ,ha,hc,ZeL,h1,h2,h3,ZyB,ZhD]
 exact he
theorem Zzr {n:Nat} {t:CT} {x:t.D} {k:SV→Prop} (hk:k (.v t x)):Zla hp (n+2) (.v t x) k:=hk
theorem ZyM {op:Op} {t:TypeId} {x j:Operand} {id:Nat} {s:List UInt8} {ks:List (List UInt8)} {k:SV→List SM→Prop} (ho:op= .lookup t x j false) (hk1:(T t).k= .smap) (hx:evS tm x=some (.mp id)) (hj:evS tm j=some (.v .s s)) (hn:nth hp id=some (.set ks)) (hk:k (.v .b (ZqG s ks)) hp):opT P h T op tm hp k:=by
 simp only[ho,opT,hk1,hx,hj,hn]
 exact hk
theorem Zzx {op:Op} {t:TypeId} {m j x:Operand} {id:Nat} {s:List UInt8} {ks:List (List UInt8)} {k:SV→List SM→Prop} (ho:op= .mapUpdate t m j x) (hk1:(T t).k= .smap) (hm:evS tm m=some (.mp id)) (hj:evS tm j=some (.v .s s)) (hx:evS tm x=some (.v .b true)) (hn:nth hp id=some (.set ks)) (hk:k (.tup []) (hp.set id (.set (ZtB s ks)))):opT P h T op tm hp k:=by
 simp only[ho,opT,hk1,hm,hj,hx,hn]
 exact hk
theorem Zko {s:List UInt8}: ∀ {ks:List (List UInt8)},ZqG s ks=false→ZtB s ks=ks++ [s]
 | [],_=>rfl
 |k::r,h=>by
  rw[ZqG]at h
  rw[ZtB]
  cases hb:(s==k)with
  |true=>rw[hb]at h;cases h
  |false=>rw[hb]at h;rw[cond_false,Zko h];rfl
end
end Go.Tx
/-
 Slices of rows at places known by an equation: parts, parts with their room told, 'clear', 'append' in place.
-/
namespace Go.Tx
open Go.Am
section
variable {P : Program} {h : Hints} {T : TypeId → TI} {hp : List SM} {tm : TM} {op : Op} {k : SV → List SM → Prop}
theorem Zwz {t e:TypeId} {x a:Operand} {id i n:Nat} {ct:CT} {l:List ct.D} {bb:Bool} {k1:IntKind} {u:Int} (ho:op= .slice t x (some a) none none) (hx:evS tm x=some (.ref id i n none)) (hk1:(T t).k= .slice e) (h3:Zep (T e).k=false) (hn:nth hp id=some (.row ct l bb)) (hz:Nat.beq ct.w (T e).sz=true)
 (ha:evS tm a=some (.v (.i k1) u)) (hj:0≤u∧u≤(n:Int)) (hk:k (.ref id (i+u.toNat) (n-u.toNat) none) hp):opT P h T op tm hp k:=by
 subst ho
 simp only[opT,hx,Zoq,hk1,hn,hz,ZuT,ha]
 generalize(T e).k=q at*
 cases q<;>first|(cases h3;done)|(simp only[];rw[hz];exact⟨hj,hk⟩)
theorem ZoS {α:Type} {l:List α} {i:Nat} {x:α} (h:nth l i=some x):l.set i x=l:=by
 rw[Za5]at h
 obtain⟨hi,rfl⟩:=List.getElem?_eq_some_iff.1 h
 exact List.set_getElem_self hi
end
end Go.Tx
