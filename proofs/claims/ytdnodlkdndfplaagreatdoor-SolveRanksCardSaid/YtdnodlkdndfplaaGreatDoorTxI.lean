/-
 'append' onto rows held by content; one row that is left of all memory; more rules for looked-ahead values.
-/
import Derived.Test.YtdnodlkdndfplaaGreatDoorM6
set_option linter.constructorNameAsVariable false
set_option linter.unusedSimpArgs false
set_option linter.unusedVariables false
namespace Go.Tx
open Go.Am
section
variable {P : Program} {h : Hints} {T : TypeId → TI} {hp : List SM} {tm : TM} {F : Nat}
theorem Zw3 {c:Cx} {k:Ex→TM→List SM→Prop} (hn:k .ret tm hp):wp P h T F c .ret tm hp k:=hn
theorem ZvS {k:Ex→TM→List SM→Prop} {n:TM→List SM→Prop} (hn:k .ret tm hp):Zxg k n .ret tm hp:=hn
theorem Zun {id:Nat} {k:Ex→TM→List SM→Prop} (hn:k .ret tm hp):ZqX id k .ret tm hp:=hn
theorem ZsL {σ:Type} {ctm:σ→TM} {chp:σ→List SM} {Inv:σ→Prop} {meas:σ→Nat} {a:σ} {k:Ex→TM→List SM→Prop} (hn:k .ret tm hp):Zvk F ctm chp Inv meas a k .ret tm hp:=hn
theorem Zvz {c:Cx} {n0:TM→List SM→Prop} {id:Nat} {k:Ex→TM→List SM→Prop} (hn:k .normal tm hp):wp P h T F c (.exit id) tm hp (Zxg (ZqX id k) n0):=by
 show ZqX id k (.exit id) tm hp
 have e:Nat.beq id id=true:=Nat.beq_refl id
 simp only[ZqX,e]
 exact hn
theorem Zub {c:Cx} {id:Nat} {σ:Type} {ctm:σ→TM} {chp:σ→List SM} {Inv:σ→Prop} {meas:σ→Nat} {a:σ} {n0:TM→List SM→Prop} {k:Ex→TM→List SM→Prop} (hn:k .normal tm hp):wp P h T F c (.exit id) tm hp (Zxg (Zvk F ctm chp Inv meas a (ZqX id k)) n0):=by
 show ZqX id k (.exit id) tm hp
 have e:Nat.beq id id=true:=Nat.beq_refl id
 simp only[ZqX,e]
 exact hn
theorem Zxk {tm tm':TM} {id:Nat} {m:SM} (hm:nth hp id=some m) (hr:Zfg m=[]) (htm:Zwm (fun _=>id) 1 tm tm'):Ent 0 tm hp tm' [m]:=by
 rw[ZaG]at hm
 refine ZhY (fun _=>id) (Nat.zero_le _) (fun j hj=>absurd hj (Nat.not_lt_zero j)) (fun j _=>(List.getElem?_eq_some_iff.1 hm).1) (fun i j hi hj _=> ?_) htm fun j x hx=> ?_
 ·have hi:i<1:=hi
  have hj:j<1:=hj
  omega
 ·have hjl:=(List.getElem?_eq_some_iff.1 hx).1
  have e:j=0:=by have h1:j<1:=hjl;omega
  subst e
  cases hx
  refine .inr ⟨?_,fun id hid=>by rw[hr]at hid;exact absurd hid List.not_mem_nil⟩
  rw[hm,Zhp (p:=0) (fun j hj=>absurd hj (Nat.not_lt_zero j)) m (fun id hid=>by rw[hr]at hid;exact absurd hid List.not_mem_nil)]
theorem ZwP {α:Type} {l:List α} {n:Nat} {x:α} (h:nth l n=some x):n<l.length:=by
 rw[ZaG]at h;exact(List.getElem?_eq_some_iff.1 h).1
theorem ZhH {α:Type} {l:List α} {n:Nat} {x y:α} (h:nth l n=some x):nth (l++ [y]) n=some x:=by
 have h1:=ZwP h
 rw[ZaG]at h⊢
 rw[List.getElem?_append_left h1,h]
theorem Ztf {α:Type} {l:List α} {i n:Nat} {x:α} (h:i≠n):nth (l.set i x) n=nth l n:=by rw[ZaG,ZaG,List.getElem?_set_ne h]
theorem ZxP {id j:Nat} (h:id≠j):nth (frz1 hp id) j=nth hp j:=by
 unfold frz1
 split<;>first|rfl|exact Ztf h
theorem ZnO {j:Nat}: ∀ {ids:List Nat} {hp:List SM},j ∉ ids→nth (frzT hp ids) j=nth hp j
 | [],_,_=>rfl
 |i::r,hp,h=>by
  rw[frzT,ZnO fun h1=>h (List.mem_cons_of_mem _ h1)]
  exact ZxP fun e=>h (by rw[e];exact List.mem_cons_self)
theorem Zva {id:Nat}:(frz1 hp id).length=hp.length:=by
 unfold frz1
 split<;>first|rfl|exact List.length_set
theorem ZkU: ∀ {ids:List Nat} {hp:List SM},(frzT hp ids).length=hp.length
 | [],_=>rfl
 |i::r,hp=>by rw[frzT,ZkU,Zva]
theorem ZkA {op:Op} {ct:CT} {by_ id n:Nat} {X:SV} {l new:List ct.D} {k:SV→List SM→Prop}
 {c:Call} {t t2 e e2:TypeId} {ts:List TypeId} (ho:op= .call c) (hc:c.callee= .builtin .append) (ha:evL tm c.args.toList=some [.ref id 0 n none,X]) (ht:c.argTypes.toList=t::t2::ts) (hk1:(T t).k= .slice e) (hk2:(T t2).k= .slice e2) (hct:(T e).ct=some ct) (hby:(T e).by_=by_) (hok:(Zdi (T e).k,Nat.ble 1 (T e).by_&&Nat.ble 1 (T e).sz,h.frz t)=(false,true,false))
 (hn:nth hp id=some (.row ct l true)) (hl:n=l.length) (hX: ∀kk:List ct.D→Prop,kk new→ZqI ct hp X kk) (hz:(n+new.length)*by_≤140737488355328)
 (hk: ∀id' hp',nth hp' id'=some (.row ct (l++new) true)→(∀j,j≠id→j<hp.length→nth hp' j=nth hp j)→hp.length≤hp'.length→(id'=id∨hp.length≤id')→k (.ref id' 0 (n+new.length) none) hp'):opT P h T op tm hp k:=by
 have hg:ZqI ct hp X (fun new=>ZtR ct by_ hp (.ref id 0 n none) new k):=by
  refine hX _ ?_
  have e1:sub l 0 n=l:=by rw[sub,List.drop_zero,List.take_of_length_le (by omega)]
  cases new with
  |nil=>
   simp only[ZtR,hn]
   rw[dif_pos (Zc1 ct)]
   refine⟨by omega, ?_⟩
   exact hk id hp (by rw[List.append_nil];exact hn) (fun _ _ _=>rfl) (Nat.le_refl _) (.inl rfl)
  |cons x r=>
   refine Zk4 hn (by omega) hz ?_
   rw[e1]
   have hlen:(hp.set id .dead++ [SM.row ct (l++x::r) true]).length=hp.length+1:=by rw[List.length_append,List.length_set];rfl
   refine hk hp.length _ ?_ (fun j hj hjl=> ?_) (by rw[hlen];omega) (.inr (Nat.le_refl _))
   ·rw[ZaG,List.getElem?_append_right (by rw[List.length_set];exact Nat.le_refl _),List.length_set,Nat.sub_self];rfl
   ·rw[ZaG,List.getElem?_append_left (by rw[List.length_set];exact hjl),List.getElem?_set_ne (fun e=>hj e.symm),ZaG]
 simp only[Prod.mk.injEq]at hok
 obtain⟨ok1,ok2,ok3⟩:=hok
 simp only[ho,opT,Zmw,ha,hc,ZgM,ht,hk1,hk2,hct,ok2,ok3]
 subst hby
 generalize(T e).k=kk at*
 cases kk<;>first|(cases ok1;done)|exact hg
theorem Zuc {ct:CT} {xs:List ct.D} {kk:List ct.D→Prop} (h:kk xs):ZqI ct hp (.v (.l ct) xs) kk:=by
 simp only[ZqI]
 rw[dif_pos (Zc1 ct)]
 exact h
theorem Zr1 {op:Op} {ct:CT} {by_ id n:Nat} {X:SV} {l:List ct.D} {x:ct.D} {k:SV→List SM→Prop}
 {c:Call} {t t2 e e2:TypeId} {ts:List TypeId} (ho:op= .call c) (hc:c.callee= .builtin .append) (ha:evL tm c.args.toList=some [.ref id 0 n none,X]) (ht:c.argTypes.toList=t::t2::ts) (hk1:(T t).k= .slice e) (hk2:(T t2).k= .slice e2) (hct:(T e).ct=some ct) (hby:(T e).by_=by_) (hok:(Zdi (T e).k,Nat.ble 1 (T e).by_&&Nat.ble 1 (T e).sz,h.frz t)=(false,true,true))
 (hX: ∀kk:SV→Prop,kk (.v (.l ct) [x])→Zdn hp 40 X kk) (hni:id ∉ Zjo hp 40 X) (hn:nth hp id=some (.row ct l true)) (hl:n=l.length) (hz:(n+1)*by_≤140737488355328)
 (hk: ∀id' hp',nth hp' id'=some (.row ct (l++ [x]) true)→(∀j,j≠id→j ∉ Zjo hp 40 X→j<hp.length→nth hp' j=nth hp j)→hp.length≤id'→k (.ref id' 0 (n+1) none) hp'):opT P h T op tm hp k:=by
 have hg:Zdn hp 40 X fun V=>ZqI ct [] V fun new=>ZtR ct by_ (frzT hp (Zjo hp 40 X)) (.ref id 0 n none) new k:=by
  refine hX _ (Zuc ?_)
  refine Zk4 (by rw[ZnO hni];exact hn) (by rw[hl];omega) hz ?_
  have e1:sub l 0 n=l:=by rw[sub,List.drop_zero,List.take_of_length_le (by omega)]
  rw[e1]
  refine hk _ _ ?_ (fun j hj hjx hjl=> ?_) (by rw[ZkU];exact Nat.le_refl _)
  ·rw[ZaG,List.getElem?_append_right (by rw[List.length_set];exact Nat.le_refl _),List.length_set,Nat.sub_self];rfl
  ·rw[ZaG,List.getElem?_append_left (by rw[List.length_set,ZkU];exact hjl),List.getElem?_set_ne (fun e=>hj e.symm),←ZaG,ZnO hjx]
 simp only[Prod.mk.injEq]at hok
 obtain⟨ok1,ok2,ok3⟩:=hok
 simp only[ho,opT,Zmw,ha,hc,ZgM,ht,hk1,hk2,hct,ok2,ok3]
 subst hby
 generalize(T e).k=kk at*
 cases kk<;>first|(cases ok1;done)|exact hg
theorem Zr2 {ct:CT} {m r W n:Nat} {l:List ct.D} {b b2:Bool} {k:SV→Prop} (hm:nth hp m=some (.many (.l ct) [.ref r 0 W none] b)) (hr:nth hp r=some (.row ct l b2)) (hl:l.length=W) (hk:k (.v (.l (.l ct)) [l])):Zdn hp (n+3) (.ref m 0 1 none) k:=by
 simp only[Zdn,hm]
 refine⟨Nat.le_refl 1, ?_⟩
 have e:sub [SV.ref r 0 W none] 0 1=[.ref r 0 W none]:=rfl
 rw[e]
 simp only[ZdU,Zdn,hr]
 refine⟨by omega, ?_⟩
 have e2:sub l 0 W=l:=by rw[sub,List.drop_zero,List.take_of_length_le (by omega)]
 have e3:Zug (.l ct) [SV.v (.l ct) (sub l 0 W)]=some [l]:=by rw[e2];exact ZhM [l]
 rw[e3]
 exact hk
theorem Zk2 {ct:CT} {m r W n:Nat} {l:List ct.D} {b b2:Bool} (hm:nth hp m=some (.many (.l ct) [.ref r 0 W none] b)) (hr:nth hp r=some (.row ct l b2)):Zjo hp (n+2) (.ref m 0 1 none)=[m,r]:=by
 have e:sub [SV.ref r 0 W none] 0 1=[.ref r 0 W none]:=rfl
 simp only[Zjo,hm,e,List.flatMap_cons,List.flatMap_nil,hr,List.append_nil]
theorem Zox {op:Op} {c:Call} {f:FuncId} {V:SV} {k:SV→List SM→Prop} (ho:op= .call c) (hc:c.callee= .value (.func f)) (ha:evL tm c.args.toList=some [V]) (h1:h.opn f=false) (h2:h.imp f=false) (h3:h.mem f=false) (he:Zdn hp 40 V fun v=>PureOK P h f [v] fun W=>match ZmL W with|true=>k W hp|false=>False):opT P h T op tm hp k:=by
 subst ho
 simp only[opT,Zmw,ha,hc,ZeI,h1,h2,h3,ZAA,ZdU]
 exact he
theorem ZuQ {W:SV} {p:Prop} (h:ZmL W=true) (hp:p):(match ZmL W with|true=>p|false=>False):=by
 rw[h];exact hp
theorem ZBb {op:Op} {c:Call} {i g:Nat} {a d vs:List SV} {k:SV→List SM→Prop} (ho:op= .call c) (hc:c.callee= .value (.tmp i)) (hx:evS tm (.tmp i)=some (.func g a d)) (hv:evL tm c.args.toList=some vs) (h1:h.opn g=true) (hO:OpenOK P h g (a++vs++d) hp k):opT P h T op tm hp k:=by
 subst ho
 simp only[opT,Zmw,hv,hc,hx,ZeI,h1]
 exact hO
variable {N i dd : Nat} {ls : List Nat} {l : List Oper} {o : Oper} {ks : List (Nat × Nat × Bool)} {kk : TM → List SM → Prop} {V : SV}
theorem ZxF {bo:BinOp} {t y2:TypeId} {x y:Operand} (hi:has i ls=true) (ho:o.op= .binOp bo t x y y2) (he:opT P h T (.binOp bo t x y y2) tm hp fun W hp'=>ZcY N o.dst W tm fun tm'=>ZaQ P h T N ls l (i+1) ks tm' hp' kk):ZaQ P h T N ls (o::l) i ks tm hp kk:=by
 simp only[ZaQ,hi,ho]
 exact he
theorem ZyQ {t:TypeId} {x:Operand} {lo hi' mx:Option Operand} {ct:CT} {xs:List ct.D} (hi:has i ls=true) (ho:o.op= .slice t x lo hi' mx) (hx:evS tm x=some (.v (.l ct) xs)) (he:opT P h T (.slice t x lo hi' mx) tm hp fun W hp'=>ZcY N o.dst W tm fun tm'=>ZaQ P h T N ls l (i+1) ks tm' hp' kk):ZaQ P h T N ls (o::l) i ks tm hp kk:=by
 simp only[ZaQ,hi,ho,hx]
 exact he
end
end Go.Tx
/-
 The reference's Minor and Det.
-/
namespace Go.Proofs.YtdnodlkdndfplaaGreatDoor
open Go.Am Go.Tx Dv Go.Lib La
set_option maxRecDepth 100000
def Zlb {α:Type} (k:Nat) (r:List α):List α:=r.take k++r.drop (k+1)
theorem Zvh {α β:Type} (f:α→β) (k:Nat) (r:List α):Zlb k (r.map f)=(Zlb k r).map f:=by
 rw[Zlb,Zlb,List.map_append,List.map_take,List.map_drop]
theorem Zv8 {α:Type} {k W:Nat} {r:List α} (h:r.length=W+1) (hk:k<W+1):(Zlb k r).length=W:=by
 rw[Zlb,List.length_append,List.length_take,List.length_drop];omega
def Zmc (m:List (List (List UInt8))) (k i:Nat):List (List (List UInt8)):=((m.take i).drop 1).map (Zlb k)
theorem ZkY (m:List (List (List UInt8))) (k i:Nat) (hi:i≤m.length):(Zmc m k i).length=i-1:=by
 rw[Zmc,List.length_map,List.length_drop,List.length_take];omega
theorem Zi3 {m:List (List (List UInt8))} {k:Nat} (i:Nat) (hi:i≤1):Zmc m k i=[]:=List.length_eq_zero_iff.1 (by rw[Zmc,List.length_map,List.length_drop,List.length_take];omega)
theorem Zsi {m:List (List (List UInt8))} {k i:Nat} {r:List (List UInt8)} (hr:m[i]? =some r) (hi:i≠0):Zmc m k (i+1)=Zmc m k i++ [Zlb k r]:=by
 have hlt:=(List.getElem?_eq_some_iff.1 hr).1
 rw[Zmc,List.take_add_one,hr,Zmc,List.drop_append_of_le_length (by rw[List.length_take];omega),List.map_append]
 rfl
theorem ZsQ (m:List (List (List UInt8))) (k:Nat):Zmc m k m.length=(m.drop 1).map (Zlb k):=by rw[Zmc,List.take_length]
set_option maxHeartbeats 8000000 in
theorem ZuT (m:List (List (List UInt8))) (k:Nat) (hm:m.length≤1000) (hr: ∀r∈m,k<r.length∧r.length≤1000):PureOK Tryz.prog Zam 75 [.v (.l (.l .s)) m,nt 0,nt k] (fun V=>V= .v (.l (.l .s)) ((m.drop 1).map (Zlb k))):=by
 refine Zab Zaa Tryz.func75 ?_
 refine Zat ?_
 refine Zah ?_
 refine Zas ?_
 refine Zat ?_
 refine Zah ?_
 refine Zas ?_
 refine Zat ?_
 iterate 3 refine Zah ?_
 refine Zas ?_
 refine Zap Zaa rfl (fun(i:Nat)=> [(1,nt 0),(2,nt k),(7, .ref 0 0 (i-1) none),(10, .v (.l (.l .s)) m),(11,nt m.length),(12,nt i)]) (fun i=> [.row (.l .s) (Zmc m k i) true]) (fun i=>i≤m.length) (fun i=>m.length-i) ?_ 0 (Nat.zero_le _) ?_
 ·intro i hi
  cases h1:decide ((i:Int)<(m.length:Int))with
  |false=>
   refine Zat ?_
   refine Zah ?_
   refine Zas ?_
   refine brF h1 ?_
   have he:i=m.length:=by have:=of_decide_eq_false h1;omega
   subst he
   refine Zat ?_
   iterate 2 refine Zah ?_
   refine Zas ?_
   have e:sub (Zmc m k m.length) 0 (m.length-1)=(m.drop 1).map (Zlb k):=by
    rw[sub,List.drop_zero,List.take_of_length_le (by rw[ZkY _ _ _ (Nat.le_refl _)];exact Nat.le_refl _),ZsQ]
   exact⟨by rw[ZkY _ _ _ (Nat.le_refl _)];omega,congrArg (fun x=>SV.v (.l (.l .s)) x) e⟩
  |true=>
   have hlt:i<m.length:=by have:=of_decide_eq_true h1;omega
   have gx:m[(i:Int).toNat]? =some m[i]:=by rw[Int.toNat_natCast];exact List.getElem?_eq_getElem hlt
   obtain⟨hkr,hrl⟩:=hr _ (List.getElem_mem hlt)
   have hr0:m[i]? =some m[i]:=List.getElem?_eq_getElem hlt
   obtain⟨r,er⟩: ∃x,m[i]=x:=⟨_,rfl⟩
   rw[er]at gx hkr hrl hr0
   have wi:IntKind.i64.wrap ((i:Int)+1)=((i+1:Nat):Int):=Zae (by omega) (by omega)
   have wk:IntKind.i64.wrap ((k:Int)+1)=((k+1:Nat):Int):=Zae (by omega) (by omega)
   refine Zat ?_
   refine Zah ?_
   refine Zas ?_
   refine brT h1 ?_
   refine Zat ?_
   refine Zah ?_
   refine Zi9 rfl (fun _=>rfl) (Int.natCast_nonneg i) gx rfl rfl ?_
   iterate 3 refine Zah ?_
   refine Zas ?_
   cases h2:decide (i=0)with
   |true=>
    have e0:i=0:=of_decide_eq_true h2
    subst e0
    refine Zat ?_
    iterate 3 refine Zah ?_
    refine Zas ?_
    refine brF rfl ?_
    refine Zat ?_
    iterate 2 refine Zah ?_
    refine Zas ?_
    refine⟨1,hlt,by show m.length-1<m.length-0;omega, ?_⟩
    show Ent 0 _ [SM.row (.l .s) (Zmc m k 0) true] _ [SM.row (.l .s) (Zmc m k 1) true]
    rw[Zi3 0 (by decide),Zi3 1 (by decide)]
    exact Zaq ⟨rfl,rfl,rfl,rfl,rfl,rfl,trivial⟩
   |false=>
    have hi0:i≠0:=of_decide_eq_false h2
    have h3:(!decide ((i:Int)=(0:Int)))=true:=by rw[Bool.not_eq_true',decide_eq_false_iff_not];omega
    refine Zat ?_
    iterate 3 refine Zah ?_
    refine Zas ?_
    refine brT h3 ?_
    have ck:(0:Int)≤(k:Int)∧(k:Int)≤(r.length:Int):=by omega
    have ck1:(0:Int)≤IntKind.i64.wrap ((k:Int)+1)∧IntKind.i64.wrap ((k:Int)+1)≤(r.length:Int):=by rw[wk];omega
    have eA:r.take k=(r.take (k:Int).toNat).drop 0:=by rw[Int.toNat_natCast,List.drop_zero]
    have eB:r.drop (k+1)=(r.take r.length).drop (IntKind.i64.wrap ((k:Int)+1)).toNat:=by rw[wk,Int.toNat_natCast,List.take_length]
    have zA:(0+(r.take k).length)*16≤140737488355328:=by rw[List.length_take];omega
    have zB:(0+(r.take k).length+(r.drop (k+1)).length)*16≤140737488355328:=by rw[List.length_take,List.length_drop];omega
    have zC:(i-1+1)*24≤140737488355328:=by omega
    have ml:=ZkY m k i hi
    have xl:(([]++r.take k)++r.drop (k+1)).length=0+(r.take k).length+(r.drop (k+1)).length:=by rw[List.length_append,List.nil_append];omega
    have ne1:(0:Nat)≠1:=by decide
    have hne: ∀a:Nat,a=1∨2≤a→0≠a:=fun a h=>by omega
    have hni: ∀a b c d:Nat,2≤a→a≤b→(c=1∨2≤c)→(d=c∨a≤d)→0 ∉ [b,d]:=fun a b c d h1 h2 h3 h4=>by
     simp only[List.mem_cons,List.not_mem_nil,or_false];omega
    refine ZBs ?_
    refine ZlK rfl rfl rfl rfl rfl ?_
    refine Zd8 rfl rfl (opm (fun _=>rfl) rfl rfl ?_)
    refine Zd8 rfl rfl (opv (fun _=>rfl) rfl rfl ?_)
    refine Zd8 rfl rfl (opv (fun _=>rfl) rfl rfl ?_)
    refine Zd8 rfl rfl (opc (fun _=>rfl) ck rfl rfl ?_)
    refine ZlK rfl rfl rfl rfl rfl ?_
    refine ZlK rfl rfl rfl rfl rfl ?_
    refine ZxF rfl rfl (opv (fun _=>rfl) rfl rfl ?_)
    refine ZyQ rfl rfl rfl (opc (fun _=>rfl) ck1 rfl rfl ?_)
    refine ZrQ rfl rfl (ZkA (ct:= .s) (l:=[]) (new:=r.take k) rfl rfl rfl rfl rfl rfl rfl rfl rfl rfl rfl (fun kk hk=>Zuc (eA▸hk)) zA (fun i1 H1 h1 a1 b1 c1=> ?_))
    refine ZdP rfl rfl ?_
    refine ZrQ rfl rfl (ZkA (ct:= .s) (new:=r.drop (k+1)) rfl rfl rfl rfl rfl rfl rfl rfl rfl h1 (by rw[List.nil_append,Nat.zero_add]) (fun kk hk=>Zuc (eB▸hk)) zB (fun i2 H2 h2 a2 b2 c2=> ?_))
    refine ZdP rfl rfl ?_
    refine Zd8 rfl rfl (opm (fun _=>rfl) rfl rfl ?_)
    refine ZrQ rfl rfl (Zr1 (ct:= .l .s) (l:=Zmc m k i) (x:=Zlb k r) rfl rfl rfl rfl rfl rfl rfl rfl rfl (fun kk hk=>Zr2 Zgu (ZhH h2) xl hk) (by rw[Zk2 Zgu (ZhH h2)];exact hni H1.length H2.length i1 i2 b1 b2 c1 c2) (ZhH ((a2 0 (hne i1 c1) (Nat.lt_of_lt_of_le (Nat.zero_lt_succ 1) b1)).trans (a1 0 ne1 (Nat.zero_lt_succ 1)))) ml.symm zC (fun i3 H3 h3 _ _=> ?_))
    refine ZdP rfl rfl ?_
    refine Zd8 rfl rfl (opv (fun _=>rfl) rfl rfl ?_)
    refine ZBf ?_
    refine Zat ?_
    iterate 2 refine Zah ?_
    refine Zas ?_
    refine⟨i+1,hlt,by show m.length-(i+1)<m.length-i;omega, ?_⟩
    show Ent 0 _ H3 _ [SM.row (.l .s) (Zmc m k (i+1)) true]
    rw[Zsi hr0 hi0]
    have e1:i-1+1=i:=by omega
    refine Zxk h3 rfl ⟨rfl,Zfr,rfl,Zfr,congrArg (fun x=>some (SV.ref i3 0 x none)) e1,Zc2 Nat.zero_lt_one,rfl,Zfr,rfl,Zfr,congrArg (fun x=>some (SV.v (.i .i64) x)) wi,Zfr,trivial⟩
 ·show Ent 0 _ [] _ [SM.row (.l .s) (Zmc m k 0) true]
  rw[Zi3 0 (by decide)]
  refine Ent.trans (tm1:=[(1,nt 0),(2,nt k),(7, .nils),(10, .v (.l (.l .s)) m),(11,nt m.length),(12,nt 0)]) (hp1:=[]) (Zaq ⟨rfl,rfl,rfl,rfl,rfl,rfl,trivial⟩) ?_
  refine ZfS (k:=7) (Nat.zero_le _) rfl (fun i V hi h=> ?_) rfl
  have hb:Nat.beq i 7=false:=by
   cases hb:Nat.beq i 7 with
   |true=>exact absurd (Nat.eq_of_beq_eq_true hb) hi
   |false=>rfl
  simp only[ZbQ,hb]at h⊢
  exact h
end Go.Proofs.YtdnodlkdndfplaaGreatDoor
