/-
 'append' while rows were looked at ahead; some rows of a heap in an order of their own.
-/
import Derived.Test.YtgmjnhiakpcpbaaGreatDoorTxG
set_option linter.constructorNameAsVariable false
set_option linter.unusedSimpArgs false
set_option linter.unusedVariables false
namespace Go.Tx
open Go.Am
section
variable {P : Program} {h : Hints} {T : TypeId → TI} {hp : List SM} {tm : TM} {N i : Nat} {ls : List Nat} {l : List Oper} {o : Oper} {ks : List (Nat × Nat × Bool)} {kk : TM → List SM → Prop} {V : SV}
def ZpO (hp:List SM):List Nat→List SM→Prop
 | [],[]=>True
 |i::is,m::ms=>nth hp i=some m∧ZgJ m=[]∧ZpO hp is ms
 |_,_=>False
theorem ZpS: ∀ {is:List Nat} {ms:List SM},ZpO hp is ms→is.length=ms.length∧ ∀ (j:Nat) (x:SM),ms[j]? =some x→ ∃i,is[j]? =some i∧nth hp i=some x∧ZgJ x=[]
 | [],[],_=>⟨rfl,fun j x h=>by simp at h⟩
 | [],_::_,h=>h.elim
 |_::_,[],h=>h.elim
 |i::is,m::ms,⟨h1,h2,h3⟩=>by
  obtain⟨g1,g2⟩:=ZpS h3
  refine⟨by simp[g1],fun j x hx=> ?_⟩
  cases j with
  |zero=>cases hx;exact⟨i,rfl,h1,h2⟩
  |succ j=>exact g2 j x hx
theorem Zmr: ∀ {l:List Nat} {a b x:Nat},l.Nodup→l[a]? =some x→l[b]? =some x→a=b
 | [],_,_,_,_,h,_=>by simp at h
 |i::r,0,0,_,_,_,_=>rfl
 |i::r,0,b+1,x,hn,h1,h2=>by
  cases h1
  rw[List.getElem?_cons_succ]at h2
  exact absurd (List.mem_of_getElem? h2) (List.nodup_cons.1 hn).1
 |i::r,a+1,0,x,hn,h1,h2=>by
  cases h2
  rw[List.getElem?_cons_succ]at h1
  exact absurd (List.mem_of_getElem? h1) (List.nodup_cons.1 hn).1
 |i::r,a+1,b+1,x,hn,h1,h2=>congrArg (· +1) (Zmr (l:=r) (List.nodup_cons.1 hn).2 h1 h2)
theorem ZaV {tm':TM} (is:List Nat) {ms:List SM} (hk:ZpO hp is ms) (hnd:is.Nodup) (htm:ZrW (fun j=>is.getD j 0) ms.length tm tm'):Ent 0 tm hp tm' ms:=by
 obtain⟨hl,hat⟩:=ZpS hk
 have hget: ∀j,j<ms.length→ ∃x i,ms[j]? =some x∧is[j]? =some i∧is.getD j 0=i∧nth hp i=some x∧ZgJ x=[]:=fun j hj=>by
  obtain⟨i,g1,g2,g3⟩:=hat j ms[j] (List.getElem?_eq_getElem hj)
  exact⟨ms[j],i,List.getElem?_eq_getElem hj,g1,by rw[List.getD_eq_getElem?_getD,g1];rfl,g2,g3⟩
 refine ZlW (fun j=>is.getD j 0) (Nat.zero_le _) (fun j hj=>absurd hj (Nat.not_lt_zero j)) (fun j hj=> ?_) (fun a b ha hb hab=> ?_) htm fun j x hx=> ?_
 ·obtain⟨x,i,_,_,g3,g4,_⟩:=hget j hj
  show is.getD j 0<_
  rw[g3]
  exact Zn9 g4
 ·obtain⟨_,i,_,g2,g3,_⟩:=hget a ha
  obtain⟨_,i',_,g2',g3',_⟩:=hget b hb
  have hab:is.getD a 0=is.getD b 0:=hab
  rw[g3,g3']at hab
  subst hab
  exact Zmr hnd g2 g2'
 ·obtain⟨hj,_⟩:=List.getElem?_eq_some_iff.1 hx
  obtain⟨y,i,g1,_,g3,g4,g5⟩:=hget j hj
  rw[g1]at hx
  cases hx
  refine .inr ⟨?_,fun id hid=>by rw[g5]at hid;exact absurd hid List.not_mem_nil⟩
  show hp[is.getD j 0]? =_
  rw[g3,←Za1,g4,ZrE (p:=0) (fun j hj=>absurd hj (Nat.not_lt_zero j)) x (fun id hid=>by rw[g5]at hid;exact absurd hid List.not_mem_nil)]
theorem ZuH {op:Op} {t:TypeId} {x j:Operand} {id:Nat} {s:List UInt8} {ks:List (List UInt8)} {k:SV→List SM→Prop} (ho:op= .lookup t x j false) (hk1:(T t).k= .smap) (hx:evS tm x=some (.mp id)) (hj:evS tm j=some (.v .s s)) (hn:nth hp id=some (.set ks)) (hk:k (.v .b (Zn8 s ks)) hp):opT P h T op tm hp k:=by
 simp only[ho,opT,hk1,hx,hj,hn]
 exact hk
theorem Zvt {op:Op} {t:TypeId} {m j x:Operand} {id:Nat} {s:List UInt8} {ks:List (List UInt8)} {k:SV→List SM→Prop} (ho:op= .mapUpdate t m j x) (hk1:(T t).k= .smap) (hm:evS tm m=some (.mp id)) (hj:evS tm j=some (.v .s s)) (hx:evS tm x=some (.v .b true)) (hn:nth hp id=some (.set ks)) (hk:k (.tup []) (hp.set id (.set (Zq4 s ks)))):opT P h T op tm hp k:=by
 simp only[ho,opT,hk1,hm,hj,hx,hn]
 exact hk
theorem Zji {s:List UInt8}: ∀ {ks:List (List UInt8)},Zn8 s ks=false→Zq4 s ks=ks++ [s]
 | [],_=>rfl
 |k::r,h=>by
  rw[Zn8]at h
  rw[Zq4]
  cases hb:(s==k)with
  |true=>rw[hb]at h;cases h
  |false=>rw[hb]at h;rw[cond_false,Zji h];rfl
end
end Go.Tx
