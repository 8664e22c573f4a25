/-
 The parts of a graph as the program finds them. (Plain.)
-/
import Derived.Test.YtkhpbclcfldhmaaGreatDoorTx9
set_option linter.constructorNameAsVariable false
set_option linter.unusedSimpArgs false
set_option linter.unusedVariables false
namespace Go.Proofs.YtkhpbclcfldhmaaGreatDoor
def Zmg (x:Nat×Nat) (v:Nat):Bool:=decide (x.1=v)||decide (x.2=v)
def oth (x:Nat×Nat) (v:Nat):Nat:=x.1+x.2-v
def Zfy (out:List Int) (v:Nat):Bool:=decide (out.getD v 0<0)
def Za3 (wo:Int) (at_ m:Nat):Nat→List (Nat×Nat)→List Int→List Nat→List Int×List Nat
 |_,[],out,todo=>(out,todo)
 |k,x::r,out,todo=>if(!decide ((k:Int)=wo)&&Zmg x at_&&Zfy out (oth x at_))=true then Za3 wo at_ m (k+1) r (out.set (oth x at_) m) (todo++ [oth x at_])else Za3 wo at_ m (k+1) r out todo
def cnt (out:List Int):Nat:=(out.filter fun x=>decide (x<0)).length
theorem ZkB: ∀ {out:List Int} {i:Nat} (m:Nat),Zfy out i=true→cnt (out.set i m)+1=cnt out
 | [],i,m,h=>by simp[Zfy]at h
 |x::r,0,m,h=>by
  have h':x<0:=by simpa[Zfy]using h
  have h2:decide ((m:Int)<0)=false:=decide_eq_false (by omega)
  rw[List.set_cons_zero]
  simp only[cnt,List.filter_cons,h2,decide_eq_true h',if_true,List.length_cons]
  simp
 |x::r,i+1,m,h=>by
  have ih:=ZkB (out:=r) (i:=i) m (by simpa[Zfy]using h)
  unfold cnt at ih⊢
  rw[List.set_cons_succ,List.filter_cons,List.filter_cons]
  split<;>(try simp only[List.length_cons])<;>omega
theorem Zog {out:List Int} {i:Nat} (h:Zfy out i=true):i<out.length:=by
 unfold Zfy at h
 by_cases hi:i<out.length
 ·exact hi
 ·rw[List.getD_eq_getElem?_getD,List.getElem?_eq_none (by omega)]at h
  simp at h
theorem ZmK {wo:Int} {at_ m:Nat} {k:Nat} {l:List (Nat×Nat)} (h:k<l.length) {out:List Int} {todo:List Nat} (hb:(!decide ((k:Int)=wo)&&Zmg l[k] at_&&Zfy out (oth l[k] at_))=false):Za3 wo at_ m k (l.drop k) out todo=Za3 wo at_ m (k+1) (l.drop (k+1)) out todo:=by
 rw[List.drop_eq_getElem_cons h,Za3,if_neg (by rw[hb];simp)]
theorem ZnJ {wo:Int} {at_ m:Nat} {k:Nat} {l:List (Nat×Nat)} (h:k<l.length) {out:List Int} {todo:List Nat} (hb:(!decide ((k:Int)=wo)&&Zmg l[k] at_&&Zfy out (oth l[k] at_))=true):Za3 wo at_ m k (l.drop k) out todo=Za3 wo at_ m (k+1) (l.drop (k+1)) (out.set (oth l[k] at_) m) (todo++ [oth l[k] at_]):=by
 rw[List.drop_eq_getElem_cons h,Za3,if_pos hb]
def okL (n:Nat) (l:List (Nat×Nat)):Prop:= ∀x∈l,x.1<n∧x.2<n
theorem ZeV (wo:Int) (at_ m:Nat): ∀ (l:List (Nat×Nat)) (k:Nat) (out:List Int) (todo:List Nat),(Za3 wo at_ m k l out todo).1.length=out.length
 | [],_,_,_=>rfl
 |x::r,k,out,todo=>by
  rw[Za3]
  split
  ·rw[ZeV wo at_ m r,List.length_set]
  ·exact ZeV wo at_ m r _ _ _
theorem ZgD (wo:Int) (at_ m:Nat): ∀ (l:List (Nat×Nat)) (k:Nat) (out:List Int) (todo:List Nat),cnt (Za3 wo at_ m k l out todo).1+(Za3 wo at_ m k l out todo).2.length=cnt out+todo.length
 | [],_,_,_=>rfl
 |x::r,k,out,todo=>by
  rw[Za3]
  split
  ·rename_i h
   simp only[Bool.and_eq_true]at h
   have:=ZkB m h.2
   rw[ZgD wo at_ m r,List.length_append,List.length_cons,List.length_nil];omega
  ·exact ZgD wo at_ m r _ _ _
theorem Zfh (wo:Int) (at_ m n:Nat): ∀ (l:List (Nat×Nat)) (k:Nat) (out:List Int) (todo:List Nat),out.length=n→(∀v∈todo,v<n)→ ∀v∈(Za3 wo at_ m k l out todo).2,v<n
 | [],_,_,_,_,h=>h
 |x::r,k,out,todo,ho,h=>by
  rw[Za3]
  split
  ·rename_i hc
   simp only[Bool.and_eq_true]at hc
   refine Zfh wo at_ m n r _ _ _ (by rw[List.length_set];exact ho) ?_
   intro v hv
   rcases List.mem_append.1 hv with hv|hv
   ·exact h v hv
   ·rw[List.mem_singleton.1 hv,←ho];exact Zog hc.2
  ·exact Zfh wo at_ m n r _ _ _ ho h
def ZhA (wo:Int) (l:List (Nat×Nat)) (m:Nat):Nat→List Int→List Nat→List Int
 |0,out,_=>out
 |_+1,out,[]=>out
 |f+1,out,v::todo=>ZhA wo l m f (Za3 wo v m 0 l out todo).1 (Za3 wo v m 0 l out todo).2
theorem Ziy (wo:Int) (l:List (Nat×Nat)) (m:Nat): ∀ (f:Nat) (out:List Int) (todo:List Nat),(ZhA wo l m f out todo).length=out.length
 |0,_,_=>rfl
 |_+1,_,[]=>rfl
 |f+1,out,v::todo=>by rw[ZhA,Ziy wo l m f,ZeV]
def ZbX (wo:Int) (l:List (Nat×Nat)):Nat→Nat→Nat→List Int→List Int
 |0,_,_,out=>out
 |k+1,i,m,out=>if Zfy out i=true then ZbX wo l k (i+1) (m+1) (ZhA wo l m (cnt (out.set i m)+1) (out.set i m) [i])else ZbX wo l k (i+1) m out
def Zeg (wo:Int) (l:List (Nat×Nat)) (n:Nat):List Int:=ZbX wo l n 0 0 (List.replicate n (-1))
theorem Zfg (wo:Int) (l:List (Nat×Nat)): ∀ (k i m:Nat) (out:List Int),(ZbX wo l k i m out).length=out.length
 |0,_,_,_=>rfl
 |k+1,i,m,out=>by
  rw[ZbX]
  split
  ·rw[Zfg wo l k,Ziy,List.length_set]
  ·exact Zfg wo l k _ _ _
theorem ZdJ (wo:Int) (l:List (Nat×Nat)) (n:Nat):(Zeg wo l n).length=n:=by rw[Zeg,Zfg,List.length_replicate]
def Nbd (m:Nat) (a b:List Int):Prop:=(∀j,0≤a.getD j 0→0≤b.getD j 0)∧((∀x∈a,x≤m)→ ∀x∈b,x≤m)
theorem ZqM (m:Nat) (a:List Int) (i:Nat):Nbd m a (a.set i m):=by
 refine⟨fun j h=> ?_,fun h x hx=> ?_⟩
 ·rw[List.getD_eq_getElem?_getD,List.getElem?_set]at*
  split
  ·split
   ·exact Int.natCast_nonneg m
   ·exact Int.le_refl 0
  ·exact h
 ·rcases List.mem_or_eq_of_mem_set hx with h'|h'
  ·exact h x h'
  ·rw[h'];exact Int.le_refl _
theorem ZgG (wo:Int) (at_ m:Nat): ∀ (l:List (Nat×Nat)) (k:Nat) (out:List Int) (todo:List Nat),Nbd m out (Za3 wo at_ m k l out todo).1
 | [],_,_,_=>⟨fun _ h=>h,fun h=>h⟩
 |x::r,k,out,todo=>by
  rw[Za3]
  split
  ·have h1:=ZgG wo at_ m r (k+1) (out.set (oth x at_) m) (todo++ [oth x at_])
   have h0:=ZqM m out (oth x at_)
   exact⟨fun j h=>h1.1 j (h0.1 j h),fun h=>h1.2 (h0.2 h)⟩
  ·exact ZgG wo at_ m r _ _ _
theorem ZlL (wo:Int) (l:List (Nat×Nat)) (m:Nat): ∀ (f:Nat) (out:List Int) (todo:List Nat),Nbd m out (ZhA wo l m f out todo)
 |0,_,_=>⟨fun _ h=>h,fun h=>h⟩
 |_+1,_,[]=>⟨fun _ h=>h,fun h=>h⟩
 |f+1,out,v::todo=>by
  rw[ZhA]
  have h0:=ZgG wo v m l 0 out todo
  have h1:=ZlL wo l m f (Za3 wo v m 0 l out todo).1 (Za3 wo v m 0 l out todo).2
  exact⟨fun j h=>h1.1 j (h0.1 j h),fun h=>h1.2 (h0.2 h)⟩
theorem Zfr (wo:Int) (l:List (Nat×Nat)): ∀ (k i m:Nat) (out:List Int),(∀j,j<i→0≤out.getD j 0)→(∀x∈out,x<m)→m≤i→(∀j,j<i+k→0≤(ZbX wo l k i m out).getD j 0)∧ ∀x∈ZbX wo l k i m out,x<((i+k:Nat):Int)
 |0,i,m,out,h1,h2,h3=>⟨h1,fun x hx=>by have:=h2 x hx;omega⟩
 |k+1,i,m,out,h1,h2,h3=>by
  have e:i+(k+1)=i+1+k:=by omega
  rw[ZbX,e]
  cases hn:Zfy out i with
  |true=>
   rw[if_pos rfl]
   have d0:=ZqM m out i
   have d1:=ZlL wo l m (cnt (out.set i m)+1) (out.set i m) [i]
   have hb:=d1.2 (d0.2 fun x hx=>by have:=h2 x hx;omega)
   refine Zfr wo l k (i+1) (m+1) _ (fun j hj=>d1.1 j ?_) (fun x hx=>by have:=hb x hx;omega) (by omega)
   by_cases c:j=i
   ·subst c
    rw[List.getD_eq_getElem?_getD,List.getElem?_set_self (Zog hn)]
    exact Int.natCast_nonneg m
   ·exact d0.1 j (h1 j (by omega))
  |false=>
   rw[if_neg (by simp)]
   refine Zfr wo l k (i+1) m out (fun j hj=> ?_) h2 (by omega)
   by_cases c:j=i
   ·subst c
    unfold Zfy at hn
    have:=of_decide_eq_false hn
    omega
   ·exact h1 j (by omega)
theorem ZjR (wo:Int) (l:List (Nat×Nat)) (n:Nat): ∀x∈Zeg wo l n,0≤x∧x<(n:Int):=by
 have h:=Zfr wo l n 0 0 (List.replicate n (-1)) (fun j hj=>absurd hj (Nat.not_lt_zero j)) (fun x hx=>by rw[List.eq_of_mem_replicate hx];decide) (Nat.le_refl 0)
 rw[Nat.zero_add]at h
 intro x hx
 obtain⟨j,hj,rfl⟩:=List.mem_iff_getElem.1 hx
 refine⟨?_,h.2 _ hx⟩
 have hl:=ZdJ wo l n
 have:=h.1 j (by omega)
 have e:(ZbX wo l n 0 0 (List.replicate n (-1))).getD j 0=(Zeg wo l n)[j]:=by
  rw[List.getD_eq_getElem?_getD,show ZbX wo l n 0 0 (List.replicate n (-1))=Zeg wo l n from rfl,List.getElem?_eq_getElem hj];rfl
 rw[e]at this
 exact this
end Go.Proofs.YtkhpbclcfldhmaaGreatDoor
/-
 Operations one at a time, each by an equation: the goals stay small.
-/
namespace Go.Tx
open Go.Am
section
variable {P : Program} {h : Hints} {T : TypeId → TI} {N : Nat} {ds : List (Option Tmp)} {o : Oper} {l : List Oper} {tm : TM} {hp : List SM} {k : TM → List SM → Prop} {j d dd : Nat} {w t : Bool} {V : SV}
theorem ZtA (hg:o.guard=some (j,w)) (hd:nth ds j=some (some d)) (ht:ZcR d tm=some (.v .b t)) (hw:t= !w) (ho:o.dst=some dd) (hN:Nat.ble (dd+1) N=true) (hk:wpOps P h T N ds l ((dd, .tup [])::tm) hp k):wpOps P h T N ds (o::l) tm hp k:=by
 simp only[wpOps,hg,hd,ht]
 refine⟨fun h=> ?_,fun _=> ?_⟩
 ·rw[hw]at h;cases w<;>cases h
 ·simp only[ZdI,ho,hN];exact hk
theorem Zaw (hg:o.guard=some (j,w)) (hd:nth ds j=some (some d)) (ht:ZcR d tm=some (.v .b t)) (hw:t=w) (hk:opT P h T o.op tm hp fun V hp'=>ZdI N o.dst V tm fun tm'=>wpOps P h T N ds l tm' hp' k):wpOps P h T N ds (o::l) tm hp k:=by
 simp only[wpOps,hg,hd,ht]
 refine⟨fun _=>hk,fun h=> ?_⟩
 rw[hw]at h;cases w<;>cases h
theorem Zad (hg:o.guard=none) (hk:opT P h T o.op tm hp fun V hp'=>ZdI N o.dst V tm fun tm'=>wpOps P h T N ds l tm' hp' k):wpOps P h T N ds (o::l) tm hp k:=by
 simp only[wpOps,hg];exact hk
theorem Zaa {dst:Option Tmp} {c:TM→Prop} (ho:dst=some dd) (hN:Nat.ble (dd+1) N=true) (hk:c ((dd,V)::tm)):ZdI N dst V tm c:=by
 simp only[ZdI,ho,hN];exact hk
theorem Zzj (hg:o.guard=none) (he: ∀k,opT P h T o.op tm hp k=k V hp) (ho:o.dst=some dd) (hN:Nat.ble (dd+1) N=true) (hk:wpOps P h T N ds l ((dd,V)::tm) hp k):wpOps P h T N ds (o::l) tm hp k:=by
 refine Zad hg ?_
 rw[he]
 have hk:=Zaa (c:=fun tm'=>wpOps P h T N ds l tm' hp k) (V:=V) (tm:=tm) ho hN hk
 exact hk
theorem ZxF (hg:o.guard=some (j,w)) (hd:nth ds j=some (some d)) (ht:ZcR d tm=some (.v .b t)) (hw:t=w) (he: ∀k,opT P h T o.op tm hp k=k V hp) (ho:o.dst=some dd) (hN:Nat.ble (dd+1) N=true) (hk:wpOps P h T N ds l ((dd,V)::tm) hp k):wpOps P h T N ds (o::l) tm hp k:=by
 refine Zaw hg hd ht hw ?_
 rw[he]
 have hk:=Zaa (c:=fun tm'=>wpOps P h T N ds l tm' hp k) (V:=V) (tm:=tm) ho hN hk
 exact hk
theorem Zak {C:Prop} (hg:o.guard=none) (he: ∀k,opT P h T o.op tm hp k=(C∧k V hp)) (hc:C) (ho:o.dst=some dd) (hN:Nat.ble (dd+1) N=true) (hk:wpOps P h T N ds l ((dd,V)::tm) hp k):wpOps P h T N ds (o::l) tm hp k:=by
 refine Zad hg ?_
 rw[he]
 have hk:=Zaa (c:=fun tm'=>wpOps P h T N ds l tm' hp k) (V:=V) (tm:=tm) ho hN hk
 exact⟨hc,hk⟩
theorem Zam {C:Prop} (hg:o.guard=some (j,w)) (hd:nth ds j=some (some d)) (ht:ZcR d tm=some (.v .b t)) (hw:t=w) (he: ∀k,opT P h T o.op tm hp k=(C∧k V hp)) (hc:C) (ho:o.dst=some dd) (hN:Nat.ble (dd+1) N=true) (hk:wpOps P h T N ds l ((dd,V)::tm) hp k):wpOps P h T N ds (o::l) tm hp k:=by
 refine Zaw hg hd ht hw ?_
 rw[he]
 have hk:=Zaa (c:=fun tm'=>wpOps P h T N ds l tm' hp k) (V:=V) (tm:=tm) ho hN hk
 exact⟨hc,hk⟩
theorem Zva {α:Type} {C:α→Prop} {W:α→SV} {x:α} (hg:o.guard=some (j,w)) (hd:nth ds j=some (some d)) (ht:ZcR d tm=some (.v .b t)) (hw:t=w) (he: ∀k,opT P h T o.op tm hp k= ∃x,C x∧k (W x) hp) (hc:C x) (ho:o.dst=some dd) (hN:Nat.ble (dd+1) N=true) (hk:wpOps P h T N ds l ((dd,(W x))::tm) hp k):wpOps P h T N ds (o::l) tm hp k:=by
 refine Zaw hg hd ht hw ?_
 rw[he]
 have hk:=Zaa (c:=fun tm'=>wpOps P h T N ds l tm' hp k) (V:=(W x)) (tm:=tm) ho hN hk
 exact⟨x,hc,hk⟩
theorem Zb4 {α:Type} {A:Prop} {C:α→Prop} {W:α→SV} {x:α} (hg:o.guard=none) (he: ∀k,opT P h T o.op tm hp k= ∃x,A∧C x∧k (W x) hp) (ha:A) (hc:C x) (ho:o.dst=some dd) (hN:Nat.ble (dd+1) N=true) (hk:wpOps P h T N ds l ((dd,(W x))::tm) hp k):wpOps P h T N ds (o::l) tm hp k:=by
 refine Zad hg ?_
 rw[he]
 have hk:=Zaa (c:=fun tm'=>wpOps P h T N ds l tm' hp k) (V:=(W x)) (tm:=tm) ho hN hk
 exact⟨x,ha,hc,hk⟩
theorem Zmz {α:Type} {A:Prop} {C:α→Prop} {W:α→SV} {x:α} (hg:o.guard=some (j,w)) (hd:nth ds j=some (some d)) (ht:ZcR d tm=some (.v .b t)) (hw:t=w) (he: ∀k,opT P h T o.op tm hp k= ∃x,A∧C x∧k (W x) hp) (ha:A) (hc:C x) (ho:o.dst=some dd) (hN:Nat.ble (dd+1) N=true) (hk:wpOps P h T N ds l ((dd,(W x))::tm) hp k):wpOps P h T N ds (o::l) tm hp k:=by
 refine Zaw hg hd ht hw ?_
 rw[he]
 have hk:=Zaa (c:=fun tm'=>wpOps P h T N ds l tm' hp k) (V:=(W x)) (tm:=tm) ho hN hk
 exact⟨x,ha,hc,hk⟩
theorem Zxr {c a b:Operand} (hg:o.guard=none) (hop:o.op= .pick c a b) (hc:evS tm c=some (.v .b t)) (ht:t=true) (ha:evS tm a=some V) (ho:o.dst=some dd) (hN:Nat.ble (dd+1) N=true) (hk:wpOps P h T N ds l ((dd,V)::tm) hp k):wpOps P h T N ds (o::l) tm hp k:=by
 refine Zad hg ?_
 rw[hop]
 have hk:=Zaa (c:=fun tm'=>wpOps P h T N ds l tm' hp k) (V:=V) (tm:=tm) ho hN hk
 subst ht
 simp[opT,hc,ha]
 exact hk
theorem Zye {c a b:Operand} (hg:o.guard=none) (hop:o.op= .pick c a b) (hc:evS tm c=some (.v .b t)) (ht:t=false) (ha:evS tm b=some V) (ho:o.dst=some dd) (hN:Nat.ble (dd+1) N=true) (hk:wpOps P h T N ds l ((dd,V)::tm) hp k):wpOps P h T N ds (o::l) tm hp k:=by
 refine Zad hg ?_
 rw[hop]
 have hk:=Zaa (c:=fun tm'=>wpOps P h T N ds l tm' hp k) (V:=V) (tm:=tm) ho hN hk
 subst ht
 simp[opT,hc,ha]
 exact hk
theorem Zis {F:Nat} {c:Cx} {b:Code} {tm:TM} {hp:List SM} {k:Ex→TM→List SM→Prop} (hp':List SM) (he:hp=hp') (hk:wp P h T F c b tm hp' k):wp P h T F c b tm hp k:=he▸hk
theorem ZrN (hg:o.guard=some (j,w)) (hd:nth ds j=some (some d)) (ht:ZcR d tm=some (.tup [])) (ho:o.dst=some dd) (hN:Nat.ble (dd+1) N=true) (hk:wpOps P h T N ds l ((dd, .tup [])::tm) hp k):wpOps P h T N ds (o::l) tm hp k:=by
 simp only[wpOps,hg,hd,ht,ZdI,ho,hN]
 exact hk
theorem ZbE {c a b:Operand} {t':Bool} (hg:o.guard=some (j,w)) (hd:nth ds j=some (some d)) (htg:ZcR d tm=some (.v .b t')) (hw:t'=w) (hop:o.op= .pick c a b) (hc:evS tm c=some (.v .b t)) (ht:t=true) (ha:evS tm a=some V) (ho:o.dst=some dd) (hN:Nat.ble (dd+1) N=true) (hk:wpOps P h T N ds l ((dd,V)::tm) hp k):wpOps P h T N ds (o::l) tm hp k:=by
 refine Zaw hg hd htg hw ?_
 rw[hop]
 have hk:=Zaa (c:=fun tm'=>wpOps P h T N ds l tm' hp k) (V:=V) (tm:=tm) ho hN hk
 subst ht
 simp[opT,hc,ha]
 exact hk
theorem ZcS {c a b:Operand} {t':Bool} (hg:o.guard=some (j,w)) (hd:nth ds j=some (some d)) (htg:ZcR d tm=some (.v .b t')) (hw:t'=w) (hop:o.op= .pick c a b) (hc:evS tm c=some (.v .b t)) (ht:t=false) (ha:evS tm b=some V) (ho:o.dst=some dd) (hN:Nat.ble (dd+1) N=true) (hk:wpOps P h T N ds l ((dd,V)::tm) hp k):wpOps P h T N ds (o::l) tm hp k:=by
 refine Zaw hg hd htg hw ?_
 rw[hop]
 have hk:=Zaa (c:=fun tm'=>wpOps P h T N ds l tm' hp k) (V:=V) (tm:=tm) ho hN hk
 subst ht
 simp[opT,hc,ha]
 exact hk
theorem ZiG {F:Nat} {c:Cx} {id:Nat} {b:Code} {k:Ex→TM→List SM→Prop} (hk:h.keepB c.fid id=none) (hb:wp P h T F c b tm hp (Zvg id k)):wp P h T F c (.block id b) tm hp k:=by
 simp only[wp,hk];exact hb
theorem ZbW (hk:k tm hp):wpOps P h T N ds [] tm hp k:=hk
theorem ZaX {F:Nat} {c:Cx} {a b:Code} {k:Ex→TM→List SM→Prop} (hk:wp P h T F c a tm hp (ZxM k fun tm' hp'=>wp P h T F c b tm' hp' k)):wp P h T F c (.seq a b) tm hp k:=hk
theorem ZaW {F:Nat} {c:Cx} {id:Nat} {ops:Array Oper} {dr:Bool} {k:Ex→TM→List SM→Prop} (hl:h.light c.fid id=[]) (hk:wpOps P h T c.N (Zxz ops.toList) ops.toList tm hp fun tm' hp'=>k .normal tm' hp') (hπ:h.perm c.fid id=[]:=by rfl):wp P h T F c (.region id ops dr) tm hp k:=by
 simp only[wp,wpR,hl,hπ];exact hk
end
section
variable {P : Program} {h : Hints} {T : TypeId → TI} {N : Nat} {ds : List (Option Tmp)} {o : Oper} {l : List Oper} {tm : TM} {hp : List SM} {k : TM → List SM → Prop} {j d dd : Nat} {w w' t : Bool} {V : SV}
theorem Zab (hk:wpOps P h T N ds l ((dd,V)::tm) hp k) (hg:o.guard=none:=by exact rfl) (he: ∀k,opT P h T o.op tm hp k=k V hp:=by exact fun _=>rfl) (ho:o.dst=some dd:=by exact rfl) (hN:Nat.ble (dd+1) N=true:=by exact rfl):wpOps P h T N ds (o::l) tm hp k:=Zzj hg he ho hN hk
theorem Zac (hw:t=w) (hk:wpOps P h T N ds l ((dd,V)::tm) hp k) (hg:o.guard=some (j,w):=by exact rfl) (hd:nth ds j=some (some d):=by exact rfl) (ht:ZcR d tm=some (.v .b t):=by exact rfl) (he: ∀k,opT P h T o.op tm hp k=k V hp:=by exact fun _=>rfl) (ho:o.dst=some dd:=by exact rfl) (hN:Nat.ble (dd+1) N=true:=by exact rfl):wpOps P h T N ds (o::l) tm hp k:=ZxF hg hd ht hw he ho hN hk
theorem Zap (hw:t=w') (hk:wpOps P h T N ds l ((dd, .tup [])::tm) hp k) (hg:o.guard=some (j,w):=by exact rfl) (hd:nth ds j=some (some d):=by exact rfl) (ht:ZcR d tm=some (.v .b t):=by exact rfl) (hn:w'= !w:=by exact rfl) (ho:o.dst=some dd:=by exact rfl) (hN:Nat.ble (dd+1) N=true:=by exact rfl):wpOps P h T N ds (o::l) tm hp k:=ZtA hg hd ht (hw.trans hn) ho hN hk
theorem ZhT (hk:wpOps P h T N ds l ((dd, .tup [])::tm) hp k) (hg:o.guard=some (j,w):=by exact rfl) (hd:nth ds j=some (some d):=by exact rfl) (ht:ZcR d tm=some (.tup []):=by exact rfl) (ho:o.dst=some dd:=by exact rfl) (hN:Nat.ble (dd+1) N=true:=by exact rfl):wpOps P h T N ds (o::l) tm hp k:=ZrN hg hd ht ho hN hk
theorem ZaK {c a b:Operand} (ht:t=true) (hk:wpOps P h T N ds l ((dd,V)::tm) hp k) (hg:o.guard=none:=by exact rfl) (hop:o.op= .pick c a b:=by exact rfl) (hc:evS tm c=some (.v .b t):=by exact rfl) (ha:evS tm a=some V:=by exact rfl) (ho:o.dst=some dd:=by exact rfl) (hN:Nat.ble (dd+1) N=true:=by exact rfl):wpOps P h T N ds (o::l) tm hp k:=Zxr hg hop hc ht ha ho hN hk
theorem Zat {c a b:Operand} (ht:t=false) (hk:wpOps P h T N ds l ((dd,V)::tm) hp k) (hg:o.guard=none:=by exact rfl) (hop:o.op= .pick c a b:=by exact rfl) (hc:evS tm c=some (.v .b t):=by exact rfl) (ha:evS tm b=some V:=by exact rfl) (ho:o.dst=some dd:=by exact rfl) (hN:Nat.ble (dd+1) N=true:=by exact rfl):wpOps P h T N ds (o::l) tm hp k:=Zye hg hop hc ht ha ho hN hk
theorem brT {s t:Bool} {A B:Prop} (h:s=true) (k:A) (e:s=true→t=true:=by first|with_reducible exact fun h=>h|exact fun _=>rfl|exact fun h=>h):(t=true→A)∧(t=false→B):=⟨fun _=>k,fun h'=>by rw[e h]at h';cases h'⟩
theorem brF {s t:Bool} {A B:Prop} (h:s=false) (k:B) (e:s=false→t=false:=by first|with_reducible exact fun h=>h|exact fun _=>rfl|exact fun h=>h):(t=true→A)∧(t=false→B):=⟨fun h'=>(by rw[e h]at h';cases h'),fun _=>k⟩
end
end Go.Tx
/-
 From one piece of code to the next.
-/
namespace Go.Tx
open Go.Am
section
variable {P : Program} {h : Hints} {T : TypeId → TI} {tm : TM} {hp : List SM} {F : Nat}
theorem ZhL {k:Ex→TM→List SM→Prop} {n:TM→List SM→Prop} (hn:n tm hp):ZxM k n .normal tm hp:=hn
theorem ZeT {id:Nat} {k:Ex→TM→List SM→Prop} (hn:k .normal tm hp):Zvg id k .normal tm hp:=hn
theorem Zlh {c:Cx} {k:Ex→TM→List SM→Prop} (hn:k .normal tm hp):wp P h T F c .skip tm hp k:=hn
variable {N : Nat} {ds : List (Option Tmp)} {o : Oper} {l : List Oper} {kk : TM → List SM → Prop} {j d dd : Nat} {w t : Bool} {V : SV}
theorem Zzn {hp':List SM} (hg:o.guard=none) (he: ∀k,opT P h T o.op tm hp k=k V hp') (ho:o.dst=some dd) (hN:Nat.ble (dd+1) N=true) (hk:wpOps P h T N ds l ((dd,V)::tm) hp' kk):wpOps P h T N ds (o::l) tm hp kk:=by
 refine Zad hg ?_
 rw[he]
 have hk:=Zaa (c:=fun tm'=>wpOps P h T N ds l tm' hp' kk) (V:=V) (tm:=tm) ho hN hk
 exact hk
theorem Zbq {hp':List SM} (hk:wpOps P h T N ds l ((dd,V)::tm) hp' kk) (hg:o.guard=none:=by exact rfl) (he: ∀k,opT P h T o.op tm hp k=k V hp':=by exact fun _=>rfl) (ho:o.dst=some dd:=by exact rfl) (hN:Nat.ble (dd+1) N=true:=by exact rfl):wpOps P h T N ds (o::l) tm hp kk:=Zzn hg he ho hN hk
end
theorem Zag {p q:Prop} (h:q) (k:q→p:=by
 intro h
 repeat (first|refine Zlh ?_|refine ZhL ?_|refine ZeT ?_)
 first|((repeat first|with_reducible refine ZaX ?_|((with_reducible refine ZiG ?_ ?_);rfl));exact ZaW rfl h)|exact ZaX (ZaW rfl h)|exact ZaX (ZaX (ZaW rfl h))):p:=k h
theorem Zaf {p q:Prop} (h:q) (k:q→p:=by
 intro h
 refine ZbW ?_
 repeat (first|refine ZhL ?_|refine ZeT ?_)
 exact h):p:=k h
end Go.Tx
