/-
 Matrices given by functions, as own rows; what is behind the rows.
-/
import Derived.Test.YtdnodlkdndfplaaGreatDoorM3
import Derived.Test.YtdnodlkdndfplaaGreatDoorLb
set_option linter.constructorNameAsVariable false
set_option linter.unusedSimpArgs false
set_option linter.unusedVariables false
namespace Go.Proofs.YtdnodlkdndfplaaGreatDoor
open Go.Am Go.Tx Dv Go.Lib
set_option maxRecDepth 100000
def Zc6 (W:Nat) (g:Nat→Rat):List qct.D:=(List.range W).map fun j=>Zcy (g j)
def Zbo (n W:Nat) (f:Nat→Nat→Rat):List (List qct.D):=(List.range n).map fun i=>Zc6 W (f i)
section
variable {n W i j : Nat} {f g : Nat → Nat → Rat} {u v : Nat → Rat} {q : Rat}
theorem Zbl:(Zc6 W u).length=W:=by rw[Zc6,List.length_map,List.length_range]
theorem ZeG (hj:j<W):(Zc6 W u)[j]? =some (Zcy (u j)):=by rw[Zc6,List.getElem?_map,List.getElem?_range hj];rfl
theorem ZgX (h: ∀j,j<W→u j=v j):Zc6 W u=Zc6 W v:=List.map_congr_left fun j hj=>by rw[h j (List.mem_range.1 hj)]
theorem Zwy (hj:j<W):(Zc6 W u).set j (Zcy q)=Zc6 W (fun b=>if b=j then q else u b):=by
 apply List.ext_getElem?
 intro b
 by_cases hb:b<W
 ·rw[ZeG hb]
  by_cases e:j=b
  ·subst e;rw[List.getElem?_set_self (by rw[Zbl];exact hb),if_pos rfl]
  ·rw[List.getElem?_set_ne e,ZeG hb,if_neg (fun x=>e x.symm)]
 ·rw[List.getElem?_eq_none (by rw[List.length_set,Zbl];omega),List.getElem?_eq_none (by rw[Zbl];omega)]
theorem ZaK:(Zbo n W f).length=n:=by rw[Zbo,List.length_map,List.length_range]
theorem ZgR (hi:i<n):(Zbo n W f)[i]? =some (Zc6 W (f i)):=by rw[Zbo,List.getElem?_map,List.getElem?_range hi];rfl
theorem ZdU (h:i<(Zbo n W f).length):(Zbo n W f)[i]=Zc6 W (f i):=by simp only[Zbo,List.getElem_map,List.getElem_range]
theorem Zj5 (h: ∀i j,i<n→j<W→f i j=g i j):Zbo n W f=Zbo n W g:=List.map_congr_left fun i hi=>ZgX fun j hj=>h i j (List.mem_range.1 hi) hj
theorem ZwW (hi:i<n):(Zbo n W f).set i (Zc6 W u)=Zbo n W (fun a=>if a=i then u else f a):=by
 apply List.ext_getElem?
 intro b
 by_cases hb:b<n
 ·rw[ZgR hb]
  by_cases e:i=b
  ·subst e;rw[List.getElem?_set_self (by rw[ZaK];exact hb),if_pos rfl]
  ·rw[List.getElem?_set_ne e,ZgR hb,if_neg (fun x=>e x.symm)]
 ·rw[List.getElem?_eq_none (by rw[List.length_set,ZaK];omega),List.getElem?_eq_none (by rw[ZaK];omega)]
def hpM (n W:Nat) (f:Nat→Nat→Rat) (ex:List SM):List SM:= .many (.l qct) (ZaM 1 (Zbo n W f)) true::([]++(Za8 qct (Zbo n W f)++ex))
theorem Zb4 {ex:List SM} (h: ∀i j,i<n→j<W→f i j=g i j):hpM n W f ex=hpM n W g ex:=by rw[hpM,hpM,Zj5 h]
theorem ZeL {p:Nat} (hi:i<n):(ZaM p (Zbo n W f))[0+(i:Int).toNat]? =some (.ref (i+p) 0 W none):=by
 have h:i<(Zbo n W f).length:=by rw[ZaK];exact hi
 rw[Int.toNat_natCast,Nat.zero_add,ZdL h,ZdU h,Zbl]
theorem ZvV {p:Nat}:ZaM p (Zbo n W f)=ZaM p (Zbo n W g):=by
 have: ∀ (l m:List (List qct.D)) (p:Nat),l.map List.length=m.map List.length→ZaM p l=ZaM p m:=by
  intro l
  induction l with
  |nil=>intro m p h;cases m with
   |nil=>rfl
   |cons _ _=>simp at h
  |cons x l ih=>intro m p h;cases m with
   |nil=>simp at h
   |cons y m=>
    simp only[List.map_cons,List.cons.injEq]at h
    rw[ZaM,ZaM,h.1,ih m (p+1) h.2]
 apply this
 rw[Zbo,Zbo,List.map_map,List.map_map]
 exact List.map_congr_left fun i _=>by simp only[Function.comp];rw[Zbl,Zbl]
theorem ZgT {ex:List SM} (hi:i<n):nth (hpM n W f ex) (i+1)=some (.row qct (Zc6 W (f i)) true):=by
 have h:i<(Zbo n W f).length:=by rw[ZaK];exact hi
 rw[hpM,Zsu (fr:=[]) (p:=1) h rfl,ZdU h]
theorem Zf8 {ex:List SM} {e:Nat}:nth (hpM n W f ex) (n+1+e)=ex[e]? :=ZzR (by rw[List.length_nil,ZaK];omega)
theorem ZbL {ex:List SM}:(hpM n W f ex).length=n+1+ex.length:=by rw[hpM,Zsk,List.length_nil,ZaK];omega
theorem ZeZ {ex:List SM} {x:SM}:hpM n W f ex++ [x]=hpM n W f (ex++ [x]):=Zy6
theorem Zlr {ex:List SM} {e:Nat} {x:SM}:(hpM n W f ex).set (n+1+e) x=hpM n W f (ex.set e x):=Zz8 (by rw[List.length_nil,ZaK];omega)
def ZAL (f:Nat→Nat→Rat) (i j:Nat) (q:Rat):Nat→Nat→Rat:=fun a b=>if a=i∧b=j then q else f a b
theorem Znt {ex:List SM} (hi:i<n) (hj:j<W):(hpM n W f ex).set (i+1) (.row qct ((Zc6 W (f i)).set j (Zcy q)) true)=hpM n W (ZAL f i j q) ex:=by
 have h:i<(Zbo n W f).length:=by rw[ZaK];exact hi
 rw[hpM,Zy5 (fr:=[]) (p:=1) h rfl,Zwy hj,ZmN,ZwW hi,hpM,ZvV (g:=ZAL f i j q)]
 have e:Zbo n W (fun a=>if a=i then(fun b=>if b=j then q else f i b)else f a)=Zbo n W (ZAL f i j q):=Zj5 fun a b ha hb=>by
  unfold ZAL
  by_cases h1:a=i
  ·subst h1
   by_cases h2:b=j<;>simp[h2]
  ·simp[h1]
 rw[e]
theorem ZnJ {ex:List SM} (hex: ∀m∈ex,Zg2 m=[]): ∀m∈hpM n W f ex,∀id∈Zg2 m,id<(hpM n W f ex).length:=by
 intro m hm id hid
 rw[ZbL]
 rw[hpM,List.nil_append]at hm
 rcases List.mem_cons.1 hm with rfl|hm
 ·have:=ZfU (by simpa only[Zg2]using hid)
  rw[ZaK]at this;omega
 ·rcases List.mem_append.1 hm with hm|hm
  ·rw[Za8]at hm
   obtain⟨x,_,rfl⟩:=List.mem_map.1 hm
   simp[Zg2]at hid
  ·rw[hex m hm]at hid;exact absurd hid List.not_mem_nil
theorem Zyg {F:Nat} {tm tm':TM} {ex:List SM} {c:SM} (hF:F≤n+1) (hex: ∀m∈ex,Zg2 m=[]) (htm:ZAW (n+1+ex.length) tm tm'):Ent F tm (hpM n W f (ex++ [c])) tm' (hpM n W f ex):=by
 refine Ent.eqs ZeZ.symm ?_
 exact ZwI (by rw[ZbL];omega) (by rw[ZbL];exact htm) (ZnJ hex)
theorem ZyE {F:Nat} {tm tm':TM} {ex:List SM} {y:SM} {e:Nat} (he:ex[e]? =some y) (hy:Zg2 y=[]) (hF:F≤n+1) (htm:Zw6 (fun j=>if j=n+1 then n+1+e else j) (n+2) tm tm'):Ent F tm (hpM n W f ex) tm' (hpM n W f [y]):=by
 have hel:=(List.getElem?_eq_some_iff.1 he).1
 have l1:(hpM n W f [y]).length=n+2:=by rw[ZbL];rfl
 refine Zhb (fun j=>if j=n+1 then n+1+e else j) ?_ ?_ ?_ ?_ (by rw[l1];exact htm) ?_
 ·rw[l1];omega
 ·intro j hj;exact if_neg (by omega)
 ·intro j hj
  rw[l1]at hj
  rw[ZbL]
  show(if j=n+1 then n+1+e else j)<_
  split<;>omega
 ·intro i j hi hj h
  rw[l1]at hi hj
  have h:(if i=n+1 then n+1+e else i)=(if j=n+1 then n+1+e else j):=h
  repeat' split at h
  all_goals omega
 ·intro j m hm
  right
  have hjl:=(List.getElem?_eq_some_iff.1 hm).1
  rw[l1]at hjl
  by_cases hj:j=n+1
  ·subst hj
   have h1:(hpM n W f [y])[n+1]? =some y:=by rw[←ZaT];exact Zf8 (e:=0)
   rw[h1]at hm;cases hm
   refine⟨?_,fun id hid=>by rw[hy]at hid;exact absurd hid List.not_mem_nil⟩
   show(hpM n W f ex)[if n+1=n+1 then n+1+e else n+1]? =_
   rw[if_pos rfl,←ZaT,Zf8,he,Zke (p:=0) (fun j hj=>absurd hj (Nat.not_lt_zero j)) y (fun id hid=>by rw[hy]at hid;exact absurd hid List.not_mem_nil)]
  ·have same: ∀ex':List SM,(hpM n W f ex')[j]? =(hpM n W f [])[j]? :=by
    intro ex'
    have h1:hpM n W f ex'=hpM n W f []++ex':=by rw[hpM,hpM,List.nil_append,List.nil_append,List.append_nil,List.cons_append]
    rw[h1,List.getElem?_append_left (by rw[ZbL];simp;omega)]
   have hb:=ZnJ (n:=n) (W:=W) (f:=f) (ex:=[y]) (fun m hm=>by rw[List.mem_singleton.1 hm];exact hy) m (List.mem_of_getElem? hm)
   have hb2: ∀id∈Zg2 m,id<n+1:=by
    intro id hid
    rw[same [y]]at hm
    have:=ZnJ (n:=n) (W:=W) (f:=f) (ex:=[]) (fun m hm=>absurd hm List.not_mem_nil) m (List.mem_of_getElem? hm) id hid
    rw[ZbL]at this
    exact this
   refine⟨?_,fun id hid=>hb id hid⟩
   show(hpM n W f ex)[if j=n+1 then n+1+e else j]? =_
   rw[if_neg hj,same ex,←same [y],hm,Zke (p:=n+1) (fun j hj=>if_neg (by omega)) m hb2]
theorem ZqC {F:Nat} {hp:List SM} {tm:TM} {k:Nat} {ct:CT} {tm':TM} (hF:F≤hp.length) (hk:Zbj k tm=some .nils) (htm: ∀i V,i≠k→Zbj i tm'=some V→Zbj i tm=some V) (hk':Zbj k tm'=some (.ref hp.length 0 0 none)):Ent F tm hp tm' (hp++ [.row ct [] true]):=by
 refine⟨fun φ st hFφ hs=> ?_⟩
 have hlen:=hs.hp.len
 have ext: ∀id,id<hp.length→(φ++ [none])[id]? =φ[id]? :=fun id h=>List.getElem?_append_left (by omega)
 have le:Le φ (φ++ [none]):=fun id o h=>by rw[List.getElem?_append_left (List.getElem?_eq_some_iff.1 h).1];exact h
 have new:(φ++ [(none:Option Nat)])[hp.length]? =some none:=by rw[List.getElem?_append_right (by omega),hlen,Nat.sub_self];rfl
 refine⟨φ++ [none],fun id hid=>ext id (by omega), ?_, ?_⟩
 ·intro i V hV
  by_cases e:i=k
  ·subst e
   rw[hk']at hV;cases hV
   obtain⟨q,h1,h2⟩:=hs.tm _ _ hk
   refine⟨q,h1, ?_⟩
   simp only[RV]at h2⊢
   subst h2
   exact .inr ⟨new,rfl,trivial,trivial,rfl⟩
  ·obtain⟨q,h1,h2⟩:=hs.tm _ _ (htm i V e hV)
   exact⟨q,h1,RV.mono le _ _ h2⟩
 ·refine⟨by simp[hlen], ?_, ?_⟩
  ·intro id sm o hsm ho
   by_cases hid:id<hp.length
   ·rw[List.getElem?_append_left hid]at hsm
    rw[ext id hid]at ho
    exact RM.mono le (fun _ _ _=>rfl) (hs.hp.row id sm o hsm ho)
   ·have hidl:=(List.getElem?_eq_some_iff.1 hsm).1
    simp at hidl
    have e:id=hp.length:=by omega
    subst e
    rw[List.getElem?_append_right (Nat.le_refl _),Nat.sub_self]at hsm
    cases hsm
    rw[new]at ho;cases ho
    rfl
  ·intro id id' sm sm' a hne h1 h2 h3 h4 h5 h6
   have lt: ∀id sm,(hp++ [SM.row ct [] true])[id]? =some sm→(φ++ [none])[id]? =some (some a)→id<hp.length:=by
    intro id sm h1 h5
    rcases Nat.lt_or_ge id hp.length with h|h
    ·exact h
    ·have hidl:=(List.getElem?_eq_some_iff.1 h1).1
     simp at hidl
     have e:id=hp.length:=by omega
     subst e
     rw[new]at h5;cases h5
   have l1:=lt id sm h1 h5
   have l2:=lt id' sm' h2 h6
   rw[List.getElem?_append_left l1]at h1
   rw[List.getElem?_append_left l2]at h2
   rw[ext id l1]at h5
   rw[ext id' l2]at h6
   exact hs.hp.inj id id' sm sm' a hne h1 h2 h3 h4 h5 h6
end
end Go.Proofs.YtdnodlkdndfplaaGreatDoor
/-
 Loops of lin.Reduce.
-/
namespace Go.Proofs.YtdnodlkdndfplaaGreatDoor
open Go.Am Go.Tx Dv Go.Lib
set_option maxRecDepth 100000
abbrev nt (k:Nat):SV:= .v (.i .i64) (k:Int)
def cxR:Cx:=⟨118,0,174⟩
theorem ZA3 {q:Rat} (h:decide (q.num.sign=0)=true):q=0:=Rat.num_eq_zero.1 (Int.sign_eq_zero_iff_zero.1 (of_decide_eq_true h))
theorem ZB2 {q:Rat} (h:decide (q.num.sign=0)=false):q≠0:=fun e=>by subst e;cases h
theorem cin {i n:Nat} (h:i<n):(0:Int)≤(i:Int)∧(i:Int)<((n:Nat):Int):=by omega
theorem Zkp {W k:Nat} {u:Nat→Rat} (h:k<W):(Zc6 W u)[0+(k:Int).toNat]? =some (Zcy (u k)):=by rw[Int.toNat_natCast,Nat.zero_add];exact ZeG h
theorem Zd7 {k:Nat} (h:k<1000000):IntKind.i64.wrap ((k:Int)+1)=((k+1:Nat):Int):=Zah (by omega) (by omega)
def vA (n cols m k q:Nat):TM:=[(0, .ref 0 0 n none),(1,nt cols),(6, .ref (n+1) 0 m none),(7,nt k),(8,nt m),(9,nt q)]
set_option maxHeartbeats 8000000 in
theorem ZBm (n W cols m k:Nat) (f:Nat→Nat→Rat) (ex:List SM) (hn:n≤1000) (hm:m≤n) (hk:k<W):
 LoopOK Tryz.prog Zan 0 cxR (Zbz Tryz.f118 8) (vA n cols m k m) (hpM n W f ex)
 (fun e tm hp=>e= .exit 2∧ ∃q,m≤q∧q≤n∧(∀i,m≤i→i<q→f i k=0)∧(q<n→f q k≠0)∧tm=vA n cols m k q∧hp=hpM n W f ex):=by
 refine LoopOK.through (k:=fun e tm hp=>e= .exit 2∧ ∃q,m≤q∧q≤n∧(∀i,m≤i→i<q→f i k=0)∧(q<n→f q k≠0)∧Ent 0 tm hp (vA n cols m k q) (hpM n W f ex)) ?_ (by
  rintro e tm hp ⟨rfl,q,h1,h2,h3,h4,h5⟩
  exact⟨_,_,h5,rfl,q,h1,h2,h3,h4,rfl,rfl⟩)
 refine Zat Zaa rfl (vA n cols m k) (fun _=>hpM n W f ex) (fun q=>m≤q∧q≤n∧ ∀i,m≤i→i<q→f i k=0) (fun q=>n-q) ?_ m ⟨Nat.le_refl _,hm,fun i h1 h2=>absurd h2 (by omega)⟩ ZaU
 rintro q ⟨h1,h2,h3⟩
 have hA:nth (hpM n W f ex) 0=some (.many (.l qct) (ZaM 1 (Zbo n W f)) true):=rfl
 cases hc:decide ((q:Int)<(n:Int))with
 |false=>
  have hq:q=n:=by have:=of_decide_eq_false hc;omega
  refine Zas ?_
  iterate 5 refine Zad ?_
  refine ZaL hc ?_
  refine ZaL hc ?_
  refine ZaL hc ?_
  refine ZaL hc ?_
  refine ZaL hc ?_
  refine ZaL hc ?_
  refine ZaL hc ?_
  refine ZaL hc ?_
  refine ZaL hc ?_
  refine ZaW hc ?_
  refine Zaq ?_
  refine brF hc ?_
  exact⟨rfl,q,h1,h2,h3,fun h=>absurd h (by omega),Zap ⟨rfl,rfl,rfl,rfl,rfl,rfl,trivial⟩⟩
 |true=>
  have hlt:q<n:=by have:=of_decide_eq_true hc;omega
  have cq:=cin hlt
  have ck:=cin hk
  have hel:=ZeL (W:=W) (f:=f) (p:=1) hlt
  have hrow:=ZgT (W:=W) (f:=f) (ex:=ex) hlt
  have hcell:=Zkp (u:=f q) hk
  have hS:=Zlc (f q k)
  cases hz:decide ((f q k).num.sign=0)with
  |true=>
   refine Zas ?_
   iterate 5 refine Zad ?_
   refine Zae hc ?_
   refine Zae hc ?_
   refine ZaP rfl rfl rfl hc (ZaD rfl rfl rfl rfl rfl hA rfl cq ?_)
   refine Zab rfl rfl ?_
   refine ZaP rfl rfl rfl hc (ZaS rfl rfl hA hel rfl ?_)
   refine Zab rfl rfl ?_
   refine Zae hc ?_
   refine ZaP rfl rfl rfl hc (ZbI rfl rfl rfl rfl rfl hrow rfl ck ?_)
   refine Zab rfl rfl ?_
   refine ZaP rfl rfl rfl hc (Zca (V:=QR (f q k)) rfl rfl hrow hcell rfl ?_)
   refine Zab rfl rfl ?_
   refine ZaP rfl rfl rfl hc ((hS).mono ?_)
   rintro _ rfl
   refine Zab rfl rfl ?_
   refine Zae hc ?_
   refine ZaY hc ?_
   refine Zaq ?_
   refine brT hz ?_
   refine⟨q+1,⟨by omega,hlt,fun i g1 g2=> ?_⟩,by show n-(q+1)<n-q;omega, ?_⟩
   ·by_cases e:i=q
    ·rw[e];exact ZA3 hz
    ·exact h3 i g1 (by omega)
   ·exact Zap ⟨rfl,rfl,rfl,rfl,rfl,congrArg (fun x=>some (SV.v (.i .i64) x)) (Zd7 (by omega)),trivial⟩
  |false=>
   refine Zas ?_
   iterate 5 refine Zad ?_
   refine Zae hc ?_
   refine Zae hc ?_
   refine ZaP rfl rfl rfl hc (ZaD rfl rfl rfl rfl rfl hA rfl cq ?_)
   refine Zab rfl rfl ?_
   refine ZaP rfl rfl rfl hc (ZaS rfl rfl hA hel rfl ?_)
   refine Zab rfl rfl ?_
   refine Zae hc ?_
   refine ZaP rfl rfl rfl hc (ZbI rfl rfl rfl rfl rfl hrow rfl ck ?_)
   refine Zab rfl rfl ?_
   refine ZaP rfl rfl rfl hc (Zca (V:=QR (f q k)) rfl rfl hrow hcell rfl ?_)
   refine Zab rfl rfl ?_
   refine ZaP rfl rfl rfl hc ((hS).mono ?_)
   rintro _ rfl
   refine Zab rfl rfl ?_
   refine Zae hc ?_
   refine ZaY hc ?_
   refine Zaq ?_
   refine brF hz ?_
   exact⟨rfl,q,h1,h2,h3,fun _=>ZB2 hz,Zap ⟨rfl,rfl,rfl,rfl,rfl,rfl,trivial⟩⟩
abbrev cQ (d:Rat):SM:= .cell (Zbe (QR d)) true
def fB (f:Nat→Nat→Rat) (m:Nat) (d:Rat) (j:Nat):Nat→Nat→Rat:=fun a b=>if a=m∧b<j then f a b/d else f a b
def vB (n cols m k j:Nat):TM:=[(0, .ref 0 0 n none),(1,nt cols),(6, .ref (n+1) 0 m none),(7,nt k),(8,nt m),(10, .ptr (n+2) 0 0),(11,nt j)]
set_option maxHeartbeats 8000000 in
theorem ZBL (n W cols m k K:Nat) (f:Nat→Nat→Rat) (d:Rat) (pv:SM) (hn:n≤1000) (hW:W≤1000) (hm:m<n) (hk:k≤W) (hK:K≤100000000) (hd:d≠0) (sd:szQ d K) (sf: ∀j,j<W→szQ (f m j) K) (h0: ∀j,j<k→f m j=0):
 LoopOK Tryz.prog Zan 0 cxR (Zbz Tryz.f118 14) (vB n cols m k k) (hpM n W f [pv,cQ d])
 (fun e tm hp=>e= .exit 4∧tm=vB n cols m k W∧hp=hpM n W (fB f m d W) [pv,cQ d]):=by
 refine LoopOK.through (k:=fun e tm hp=>e= .exit 4∧Ent 0 tm hp (vB n cols m k W) (hpM n W (fB f m d W) [pv,cQ d])) ?_ (by
  rintro e tm hp ⟨rfl,h5⟩
  exact⟨_,_,h5,rfl,rfl,rfl⟩)
 refine Zat Zaa rfl (vB n cols m k) (fun j=>hpM n W (fB f m d j) [pv,cQ d]) (fun j=>k≤j∧j≤W) (fun j=>W-j) ?_ k ⟨Nat.le_refl _,hk⟩ (Ent.eqs (Zb4 fun a b _ _=>by
  unfold fB
  by_cases h:a=m∧b<k
  ·rw[if_pos h,h.1,h0 b h.2];grind
  ·rw[if_neg h]) ZaU)
 rintro j ⟨h1,h2⟩
 have hA:nth (hpM n W (fB f m d j) [pv,cQ d]) 0=some (.many (.l qct) (ZaM 1 (Zbo n W (fB f m d j))) true):=rfl
 have cm:=cin hm
 have hel:=ZeL (W:=W) (f:=fB f m d j) (p:=1) hm
 cases hc:decide ((j:Int)<(W:Int))with
 |false=>
  have hj:j=W:=by have:=of_decide_eq_false hc;omega
  refine Zas ?_
  iterate 3 refine Zad ?_
  refine Zag rfl (ZaD rfl rfl rfl rfl rfl hA rfl cm ?_)
  refine Zab rfl rfl ?_
  refine Zag rfl (ZaS rfl rfl hA hel rfl ?_)
  refine Zab rfl rfl ?_
  iterate 2 refine Zad ?_
  refine Zaq ?_
  refine brF hc ?_
  subst hj
  exact⟨rfl,Zap ⟨rfl,rfl,rfl,rfl,rfl,rfl,rfl,trivial⟩⟩
 |true=>
  have hlt:j<W:=by have:=of_decide_eq_true hc;omega
  have cj:=cin hlt
  have hrow:=ZgT (W:=W) (f:=fB f m d j) (ex:=[pv,cQ d]) hm
  have hv:fB f m d j m j=f m j:=if_neg fun h=>absurd h.2 (Nat.lt_irrefl j)
  have hcell:=Zkp (u:=fB f m d j m) hlt
  rw[hv]at hcell
  have hcd:nth (hpM n W (fB f m d j) [pv,cQ d]) (n+2)=some (cQ d):=Zf8 (e:=1)
  have hD:=Zz3 (f m j) d hK (sf j hlt) sd hd
  refine Zas ?_
  iterate 3 refine Zad ?_
  refine Zag rfl (ZaD rfl rfl rfl rfl rfl hA rfl cm ?_)
  refine Zab rfl rfl ?_
  refine Zag rfl (ZaS rfl rfl hA hel rfl ?_)
  refine Zab rfl rfl ?_
  iterate 2 refine Zad ?_
  refine Zaq ?_
  refine brT hc ?_
  refine Zas ?_
  iterate 2 refine Zad ?_
  refine Zag rfl (ZaD rfl rfl rfl rfl rfl hA rfl cm ?_)
  refine Zab rfl rfl ?_
  refine Zag rfl (ZaS rfl rfl hA hel rfl ?_)
  refine Zab rfl rfl ?_
  iterate 3 refine Zad ?_
  refine Zag rfl (ZaD rfl rfl rfl rfl rfl hA rfl cm ?_)
  refine Zab rfl rfl ?_
  refine Zag rfl (ZaS rfl rfl hA hel rfl ?_)
  refine Zab rfl rfl ?_
  refine Zad ?_
  refine Zag rfl (ZbI rfl rfl rfl rfl rfl hrow rfl cj ?_)
  refine Zab rfl rfl ?_
  refine Zag rfl (Zca (V:=QR (f m j)) rfl rfl hrow hcell rfl ?_)
  refine Zab rfl rfl ?_
  refine Zag rfl (Zl3 (V:=QR d) rfl rfl hcd rfl rfl ?_)
  refine Zab rfl rfl ?_
  refine Zag rfl ((hD).mono ?_)
  rintro _ rfl
  refine Zab rfl rfl ?_
  refine Zag rfl (ZbI rfl rfl rfl rfl rfl hrow rfl cj ?_)
  refine Zab rfl rfl ?_
  refine Zag rfl (Zh1 (z:=Zcy (f m j/d)) rfl rfl rfl hrow rfl hcell rfl rfl rfl ?_)
  refine Zcb rfl ?_
  refine Zaq ?_
  refine⟨j+1,⟨by omega,hlt⟩,by show W-(j+1)<W-j;omega, ?_⟩
  refine Ent.eqs (hp0:=hpM n W (fB f m d (j+1)) [pv,cQ d]) ?_ (Zap ⟨rfl,rfl,rfl,rfl,rfl,rfl,congrArg (fun x=>some (SV.v (.i .i64) x)) (Zd7 (by omega)),trivial⟩)
  have e0:0+(j:Int).toNat=j:=by rw[Int.toNat_natCast,Nat.zero_add]
  rw[e0]
  refine(Znt hm hlt).trans (Zb4 fun a b _ _=> ?_)
  unfold ZAL fB
  by_cases h1:a=m
  ·by_cases h2:b=j
   ·rw[if_pos ⟨h1,h2⟩,if_pos ⟨h1,by omega⟩,h1,h2]
   ·rw[if_neg fun h=>h2 h.2]
    by_cases h3:b<j
    ·rw[if_pos ⟨h1,h3⟩,if_pos ⟨h1,by omega⟩]
    ·rw[if_neg fun h=>h3 h.2,if_neg fun h=>h3 (by omega)]
  ·rw[if_neg fun h=>h1 h.1,if_neg fun h=>h1 h.1,if_neg fun h=>h1 h.1]
def fC (f g:Nat→Nat→Rat) (i j:Nat):Nat→Nat→Rat:=fun a b=>if a<i∨(a=i∧b<j)then g a b else f a b
def vC (n cols m k i j:Nat):TM:=[(0, .ref 0 0 n none),(1,nt cols),(6, .ref (n+1) 0 m none),(7,nt k),(8,nt m),(12,nt i),(13, .ptr (n+3) 0 0),(14,nt j),(100,nt n),(101,nt i)]
set_option maxHeartbeats 16000000 in
theorem ZBK (n W cols m k i K:Nat) (f g:Nat→Nat→Rat) (d:SM) (pv:SM) (hn:n≤1000) (hW:W≤1000) (hm:m<n) (hi:i<n) (him:i≠m) (hk:k<W) (hK:K≤50000000) (sf: ∀a j,a<n→j<W→szQ (f a j) K)
 (h0: ∀j,j<k→f m j=0) (hgm: ∀j,j<W→g m j=f m j) (hg: ∀j,j<W→g i j=f i j-f i k*f m j):
 LoopOK Tryz.prog Zan 0 cxR (Zbz Tryz.f118 23) (vC n cols m k i k) (hpM n W (fC f g i 0) [pv,d,cQ (f i k)])
 (fun e tm hp=>e= .exit 8∧tm=vC n cols m k i W∧hp=hpM n W (fC f g (i+1) 0) [pv,d,cQ (f i k)]):=by
 obtain⟨c,ec⟩: ∃x,f i k=x:=⟨_,rfl⟩
 rw[ec]at hg⊢
 have sc:szQ c K:=by rw[←ec];exact sf i k hi hk
 have hfull:hpM n W (fC f g i W) [pv,d,cQ c]=hpM n W (fC f g (i+1) 0) [pv,d,cQ c]:=Zb4 fun a b _ hb=>by
  unfold fC
  by_cases h1:a<i
  ·rw[if_pos (.inl h1),if_pos (.inl (by omega))]
  ·by_cases h2:a=i
   ·rw[if_pos (.inr ⟨h2,hb⟩),if_pos (.inl (by omega))]
   ·rw[if_neg (by omega),if_neg (by omega)]
 have hstart:hpM n W (fC f g i 0) [pv,d,cQ c]=hpM n W (fC f g i k) [pv,d,cQ c]:=Zb4 fun a b _ hb=>by
  unfold fC
  by_cases h1:a<i
  ·rw[if_pos (.inl h1),if_pos (.inl h1)]
  ·rw[if_neg (by omega)]
   by_cases h2:a=i∧b<k
   ·rw[if_pos (.inr h2),h2.1,hg b hb,h0 b h2.2];grind
   ·rw[if_neg (by omega)]
 refine LoopOK.through (k:=fun e tm hp=>e= .exit 8∧Ent 0 tm hp (vC n cols m k i W) (hpM n W (fC f g i W) [pv,d,cQ c])) ?_ (by
  rintro e tm hp ⟨rfl,h5⟩
  exact⟨_,_,h5,rfl,rfl,hfull⟩)
 refine Zat Zaa rfl (vC n cols m k i) (fun j=>hpM n W (fC f g i j) [pv,d,cQ c]) (fun j=>k≤j∧j≤W) (fun j=>W-j) ?_ k ⟨Nat.le_refl _,by omega⟩ (Ent.eqs hstart ZaU)
 rintro j ⟨h1,h2⟩
 obtain⟨F,eF⟩: ∃x,fC f g i j=x:=⟨_,rfl⟩
 have hA:nth (hpM n W F [pv,d,cQ c]) 0=some (.many (.l qct) (ZaM 1 (Zbo n W F)) true):=rfl
 have cm:=cin hm
 have ci:=cin hi
 have hel:=ZeL (W:=W) (f:=F) (p:=1) hi
 have helm:=ZeL (W:=W) (f:=F) (p:=1) hm
 have Fn: ∀V,V=hpM n W (fC f g i j) [pv,d,cQ c]→V=hpM n W F [pv,d,cQ c]:=fun V h=>by rw[←eF];exact h
 rw[eF]
 cases hc:decide ((j:Int)<(W:Int))with
 |false=>
  have hj:j=W:=by have:=of_decide_eq_false hc;omega
  refine Zas ?_
  iterate 3 refine Zad ?_
  refine Zag rfl (ZaD rfl rfl rfl rfl rfl hA rfl ci ?_)
  refine Zab rfl rfl ?_
  refine Zag rfl (ZaS rfl rfl hA hel rfl ?_)
  refine Zab rfl rfl ?_
  iterate 2 refine Zad ?_
  refine Zaq ?_
  refine brF hc ?_
  subst hj
  rw[eF]
  exact⟨rfl,Zap ⟨rfl,rfl,rfl,rfl,rfl,rfl,rfl,rfl,rfl,rfl,trivial⟩⟩
 |true=>
  have hlt:j<W:=by have:=of_decide_eq_true hc;omega
  have cj:=cin hlt
  have hrow:=ZgT (W:=W) (f:=F) (ex:=[pv,d,cQ c]) hi
  have hrowm:=ZgT (W:=W) (f:=F) (ex:=[pv,d,cQ c]) hm
  have hv:F i j=f i j:=by rw[←eF];exact if_neg (by omega)
  have hvm:F m j=f m j:=by
   rw[←eF]
   show(if _ then _ else _)=_
   split
   ·exact hgm j hlt
   ·rfl
  have hcell:=Zkp (u:=F i) hlt
  have hcellm:=Zkp (u:=F m) hlt
  rw[hv]at hcell
  rw[hvm]at hcellm
  have hcd:nth (hpM n W F [pv,d,cQ c]) (n+3)=some (cQ c):=Zf8 (e:=2)
  have hS:=Zlc (f m j)
  have gij:=hg j hlt
  obtain⟨y,ey⟩: ∃x,f m j=x:=⟨_,rfl⟩
  obtain⟨x,ex⟩: ∃x,f i j=x:=⟨_,rfl⟩
  have sx:szQ x K:=by rw[←ex];exact sf i j hi hlt
  have sy:szQ y K:=by rw[←ey];exact sf m j hm hlt
  rw[ey]at hcellm hS gij
  rw[ex]at hcell gij
  have hMul:=ZAB c y (k:=K) (by omega) sc sy
  have hSub:=ZAb x (c*y) (k:=K+K) (by omega) (ZyB (by omega) sx) (ZzD sc sy)
  have next: ∀a b,a<n→b<W→(if a=i∧b=j then g i j else F a b)=fC f g i (j+1) a b:=fun a b _ _=>by
   rw[←eF]
   unfold fC
   by_cases h1:a=i∧b=j
   ·rw[if_pos h1,if_pos (.inr (by omega)),h1.1,h1.2]
   ·rw[if_neg h1]
    by_cases h2:a<i∨(a=i∧b<j)
    ·rw[if_pos h2,if_pos (by omega)]
    ·rw[if_neg h2,if_neg (by omega)]
  refine Zas ?_
  iterate 3 refine Zad ?_
  refine Zag rfl (ZaD rfl rfl rfl rfl rfl hA rfl ci ?_)
  refine Zab rfl rfl ?_
  refine Zag rfl (ZaS rfl rfl hA hel rfl ?_)
  refine Zab rfl rfl ?_
  iterate 2 refine Zad ?_
  refine Zaq ?_
  refine brT hc ?_
  cases hz:decide (y.num.sign=0)with
  |true=>
   have hz':(!decide (y.num.sign=0))=false:=by rw[hz];rfl
   have y0:=ZA3 hz
   refine Zas ?_
   iterate 2 refine Zad ?_
   refine Zag rfl (ZaD rfl rfl rfl rfl rfl hA rfl cm ?_)
   refine Zab rfl rfl ?_
   refine Zag rfl (ZaS rfl rfl hA helm rfl ?_)
   refine Zab rfl rfl ?_
   refine Zad ?_
   refine Zag rfl (ZbI rfl rfl rfl rfl rfl hrowm rfl cj ?_)
   refine Zab rfl rfl ?_
   refine Zag rfl (Zca (V:=QR y) rfl rfl hrowm hcellm rfl ?_)
   refine Zab rfl rfl ?_
   refine Zag rfl ((hS).mono ?_)
   rintro _ rfl
   refine Zab rfl rfl ?_
   refine Zad ?_
   refine Zaq ?_
   refine And.intro (fun h=>by first|(cases h;done)|exact(nf h hz').elim) (fun _=> ?_)
   refine⟨j+1,⟨by omega,hlt⟩,by show W-(j+1)<W-j;omega, ?_⟩
   refine Ent.eqs (hp0:=hpM n W (fC f g i (j+1)) [pv,d,cQ c]) ?_ (Zap ⟨rfl,rfl,rfl,rfl,rfl,rfl,rfl,congrArg (fun x=>some (SV.v (.i .i64) x)) (Zd7 (by omega)),rfl,rfl,trivial⟩)
   refine Zb4 fun a b ha hb=> ?_
   rw[←next a b ha hb]
   split
   ·rename_i h;rw[h.1,h.2,gij,y0,hv,ex];grind
   ·rfl
  |false=>
   have hz':(!decide (y.num.sign=0))=true:=by rw[hz];rfl
   refine Zas ?_
   iterate 2 refine Zad ?_
   refine Zag rfl (ZaD rfl rfl rfl rfl rfl hA rfl cm ?_)
   refine Zab rfl rfl ?_
   refine Zag rfl (ZaS rfl rfl hA helm rfl ?_)
   refine Zab rfl rfl ?_
   refine Zad ?_
   refine Zag rfl (ZbI rfl rfl rfl rfl rfl hrowm rfl cj ?_)
   refine Zab rfl rfl ?_
   refine Zag rfl (Zca (V:=QR y) rfl rfl hrowm hcellm rfl ?_)
   refine Zab rfl rfl ?_
   refine Zag rfl ((hS).mono ?_)
   rintro _ rfl
   refine Zab rfl rfl ?_
   refine Zad ?_
   refine Zaq ?_
   refine And.intro (fun _=> ?_) (fun h=>by first|(cases h;done)|exact(nf hz' h).elim)
   refine Zas ?_
   iterate 2 refine Zad ?_
   refine Zag rfl (ZaD rfl rfl rfl rfl rfl hA rfl ci ?_)
   refine Zab rfl rfl ?_
   refine Zag rfl (ZaS rfl rfl hA hel rfl ?_)
   refine Zab rfl rfl ?_
   iterate 3 refine Zad ?_
   refine Zag rfl (ZaD rfl rfl rfl rfl rfl hA rfl ci ?_)
   refine Zab rfl rfl ?_
   refine Zag rfl (ZaS rfl rfl hA hel rfl ?_)
   refine Zab rfl rfl ?_
   refine Zad ?_
   refine Zag rfl (ZbI rfl rfl rfl rfl rfl hrow rfl cj ?_)
   refine Zab rfl rfl ?_
   refine Zag rfl (Zca (V:=QR x) rfl rfl hrow hcell rfl ?_)
   refine Zab rfl rfl ?_
   refine Zag rfl (Zl3 (V:=QR c) rfl rfl hcd rfl rfl ?_)
   refine Zab rfl rfl ?_
   iterate 2 refine Zad ?_
   refine Zag rfl (ZaD rfl rfl rfl rfl rfl hA rfl cm ?_)
   refine Zab rfl rfl ?_
   refine Zag rfl (ZaS rfl rfl hA helm rfl ?_)
   refine Zab rfl rfl ?_
   refine Zad ?_
   refine Zag rfl (ZbI rfl rfl rfl rfl rfl hrowm rfl cj ?_)
   refine Zab rfl rfl ?_
   refine Zag rfl (Zca (V:=QR y) rfl rfl hrowm hcellm rfl ?_)
   refine Zab rfl rfl ?_
   refine Zag rfl ((hMul).mono ?_)
   rintro _ rfl
   refine Zab rfl rfl ?_
   refine Zag rfl ((hSub).mono ?_)
   rintro _ rfl
   refine Zab rfl rfl ?_
   refine Zag rfl (ZbI rfl rfl rfl rfl rfl hrow rfl cj ?_)
   refine Zab rfl rfl ?_
   refine Zag rfl (Zh1 (z:=Zcy (x-c*y)) rfl rfl rfl hrow rfl hcell rfl rfl rfl ?_)
   refine Zcb rfl ?_
   refine Zaq ?_
   refine⟨j+1,⟨by omega,hlt⟩,by show W-(j+1)<W-j;omega, ?_⟩
   refine Ent.eqs (hp0:=hpM n W (fC f g i (j+1)) [pv,d,cQ c]) ?_ (Zap ⟨rfl,rfl,rfl,rfl,rfl,rfl,rfl,congrArg (fun x=>some (SV.v (.i .i64) x)) (Zd7 (by omega)),rfl,rfl,trivial⟩)
   have e0:0+(j:Int).toNat=j:=by rw[Int.toNat_natCast,Nat.zero_add]
   rw[e0]
   refine(Znt hi hlt).trans (Zb4 fun a b ha hb=> ?_)
   rw[←next a b ha hb,gij]
   rfl
end Go.Proofs.YtdnodlkdndfplaaGreatDoor
