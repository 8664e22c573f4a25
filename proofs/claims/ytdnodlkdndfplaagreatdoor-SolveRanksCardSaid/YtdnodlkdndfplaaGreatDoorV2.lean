/-
 Matrices given by functions, as own rows; what is behind the rows.
-/
import Derived.Test.YtdnodlkdndfplaaGreatDoorTxG
import Derived.Test.YtdnodlkdndfplaaGreatDoorLb
set_option linter.constructorNameAsVariable false
set_option linter.unusedSimpArgs false
set_option linter.unusedVariables false
namespace Go.Proofs.YtdnodlkdndfplaaGreatDoor
open Go.Am Go.Tx Dv Go.Lib
set_option maxRecDepth 100000
def ZnB (W:Nat) (g:Nat→Rat):List qct.D:=(List.range W).map fun j=>ZeU (g j)
def Zck (n W:Nat) (f:Nat→Nat→Rat):List (List qct.D):=(List.range n).map fun i=>ZnB W (f i)
section
variable {n W i j : Nat} {f g : Nat → Nat → Rat} {u v : Nat → Rat} {q : Rat}
theorem Zb2:(ZnB W u).length=W:=by rw[ZnB,List.length_map,List.length_range]
theorem ZkQ (hj:j<W):(ZnB W u)[j]? =some (ZeU (u j)):=by rw[ZnB,List.getElem?_map,List.getElem?_range hj];rfl
theorem Zjs (h: ∀j,j<W→u j=v j):ZnB W u=ZnB W v:=List.map_congr_left fun j hj=>by rw[h j (List.mem_range.1 hj)]
theorem ZuI (hj:j<W):(ZnB W u).set j (ZeU q)=ZnB W (fun b=>if b=j then q else u b):=by
 apply List.ext_getElem?
 intro b
 by_cases hb:b<W
 ·rw[ZkQ hb]
  by_cases e:j=b
  ·subst e;rw[List.getElem?_set_self (by rw[Zb2];exact hb),if_pos rfl]
  ·rw[List.getElem?_set_ne e,ZkQ hb,if_neg (fun x=>e x.symm)]
 ·rw[List.getElem?_eq_none (by rw[List.length_set,Zb2];omega),List.getElem?_eq_none (by rw[Zb2];omega)]
theorem ZaN:(Zck n W f).length=n:=by rw[Zck,List.length_map,List.length_range]
theorem Zkg (hi:i<n):(Zck n W f)[i]? =some (ZnB W (f i)):=by rw[Zck,List.getElem?_map,List.getElem?_range hi];rfl
theorem ZdH (h:i<(Zck n W f).length):(Zck n W f)[i]=ZnB W (f i):=by simp only[Zck,List.getElem_map,List.getElem_range]
theorem ZjP (h: ∀i j,i<n→j<W→f i j=g i j):Zck n W f=Zck n W g:=List.map_congr_left fun i hi=>Zjs fun j hj=>h i j (List.mem_range.1 hi) hj
theorem Zwd (hi:i<n):(Zck n W f).set i (ZnB W u)=Zck n W (fun a=>if a=i then u else f a):=by
 apply List.ext_getElem?
 intro b
 by_cases hb:b<n
 ·rw[Zkg hb]
  by_cases e:i=b
  ·subst e;rw[List.getElem?_set_self (by rw[ZaN];exact hb),if_pos rfl]
  ·rw[List.getElem?_set_ne e,Zkg hb,if_neg (fun x=>e x.symm)]
 ·rw[List.getElem?_eq_none (by rw[List.length_set,ZaN];omega),List.getElem?_eq_none (by rw[ZaN];omega)]
def hpM (n W:Nat) (f:Nat→Nat→Rat) (ex:List SM):List SM:= .many (.l qct) (Zbc 1 (Zck n W f)) true::([]++(ZbI qct (Zck n W f)++ex))
theorem Zb3 {ex:List SM} (h: ∀i j,i<n→j<W→f i j=g i j):hpM n W f ex=hpM n W g ex:=by rw[hpM,hpM,ZjP h]
theorem Zeu {p:Nat} (hi:i<n):(Zbc p (Zck n W f))[0+(i:Int).toNat]? =some (.ref (i+p) 0 W none):=by
 have h:i<(Zck n W f).length:=by rw[ZaN];exact hi
 rw[Int.toNat_natCast,Nat.zero_add,Zgd h,ZdH h,Zb2]
theorem Zvl {p:Nat}:Zbc p (Zck n W f)=Zbc p (Zck n W g):=by
 have: ∀ (l m:List (List qct.D)) (p:Nat),l.map List.length=m.map List.length→Zbc p l=Zbc p m:=by
  intro l
  induction l with
  |nil=>intro m p h;cases m with
   |nil=>rfl
   |cons _ _=>simp at h
  |cons x l ih=>intro m p h;cases m with
   |nil=>simp at h
   |cons y m=>
    simp only[List.map_cons,List.cons.injEq]at h
    rw[Zbc,Zbc,h.1,ih m (p+1) h.2]
 apply this
 rw[Zck,Zck,List.map_map,List.map_map]
 exact List.map_congr_left fun i _=>by simp only[Function.comp];rw[Zb2,Zb2]
theorem ZgV {ex:List SM} (hi:i<n):nth (hpM n W f ex) (i+1)=some (.row qct (ZnB W (f i)) true):=by
 have h:i<(Zck n W f).length:=by rw[ZaN];exact hi
 rw[hpM,ZrU (fr:=[]) (p:=1) h rfl,ZdH h]
theorem ZfO {ex:List SM} {e:Nat}:nth (hpM n W f ex) (n+1+e)=ex[e]? :=ZzS (by rw[List.length_nil,ZaN];omega)
theorem ZbF {ex:List SM}:(hpM n W f ex).length=n+1+ex.length:=by rw[hpM,Zzn,List.length_nil,ZaN];omega
theorem ZeC {ex:List SM} {x:SM}:hpM n W f ex++ [x]=hpM n W f (ex++ [x]):=ZxX
theorem ZkL {ex:List SM} {e:Nat} {x:SM}:(hpM n W f ex).set (n+1+e) x=hpM n W f (ex.set e x):=Zz1 (by rw[List.length_nil,ZaN];omega)
def ZyU (f:Nat→Nat→Rat) (i j:Nat) (q:Rat):Nat→Nat→Rat:=fun a b=>if a=i∧b=j then q else f a b
theorem Zmx {ex:List SM} (hi:i<n) (hj:j<W):(hpM n W f ex).set (i+1) (.row qct ((ZnB W (f i)).set j (ZeU q)) true)=hpM n W (ZyU f i j q) ex:=by
 have h:i<(Zck n W f).length:=by rw[ZaN];exact hi
 rw[hpM,Zxm (fr:=[]) (p:=1) h rfl,ZuI hj,Zt3,Zwd hi,hpM,Zvl (g:=ZyU f i j q)]
 have e:Zck n W (fun a=>if a=i then(fun b=>if b=j then q else f i b)else f a)=Zck n W (ZyU f i j q):=ZjP fun a b ha hb=>by
  unfold ZyU
  by_cases h1:a=i
  ·subst h1
   by_cases h2:b=j<;>simp[h2]
  ·simp[h1]
 rw[e]
theorem Zoz {ex:List SM} (hex: ∀m∈ex,Zfg m=[]): ∀m∈hpM n W f ex,∀id∈Zfg m,id<(hpM n W f ex).length:=by
 intro m hm id hid
 rw[ZbF]
 rw[hpM,List.nil_append]at hm
 rcases List.mem_cons.1 hm with rfl|hm
 ·have:=ZiJ (by simpa only[Zfg]using hid)
  rw[ZaN]at this;omega
 ·rcases List.mem_append.1 hm with hm|hm
  ·rw[ZbI]at hm
   obtain⟨x,_,rfl⟩:=List.mem_map.1 hm
   simp[Zfg]at hid
  ·rw[hex m hm]at hid;exact absurd hid List.not_mem_nil
theorem Zyx {F:Nat} {tm tm':TM} {ex:List SM} {c:SM} (hF:F≤n+1) (hex: ∀m∈ex,Zfg m=[]) (htm:ZAg (n+1+ex.length) tm tm'):Ent F tm (hpM n W f (ex++ [c])) tm' (hpM n W f ex):=by
 refine Ent.eqs ZeC.symm ?_
 exact ZhJ (by rw[ZbF];omega) (by rw[ZbF];exact htm) (Zoz hex)
theorem Zx5 {F:Nat} {tm tm':TM} {ex:List SM} {y:SM} {e:Nat} (he:ex[e]? =some y) (hy:Zfg y=[]) (hF:F≤n+1) (htm:Zwm (fun j=>if j=n+1 then n+1+e else j) (n+2) tm tm'):Ent F tm (hpM n W f ex) tm' (hpM n W f [y]):=by
 have hel:=(List.getElem?_eq_some_iff.1 he).1
 have l1:(hpM n W f [y]).length=n+2:=by rw[ZbF];rfl
 refine ZhY (fun j=>if j=n+1 then n+1+e else j) ?_ ?_ ?_ ?_ (by rw[l1];exact htm) ?_
 ·rw[l1];omega
 ·intro j hj;exact if_neg (by omega)
 ·intro j hj
  rw[l1]at hj
  rw[ZbF]
  show(if j=n+1 then n+1+e else j)<_
  split<;>omega
 ·intro i j hi hj h
  rw[l1]at hi hj
  have h:(if i=n+1 then n+1+e else i)=(if j=n+1 then n+1+e else j):=h
  repeat' split at h
  all_goals omega
 ·intro j m hm
  right
  have hjl:=(List.getElem?_eq_some_iff.1 hm).1
  rw[l1]at hjl
  by_cases hj:j=n+1
  ·subst hj
   have h1:(hpM n W f [y])[n+1]? =some y:=by rw[←ZaG];exact ZfO (e:=0)
   rw[h1]at hm;cases hm
   refine⟨?_,fun id hid=>by rw[hy]at hid;exact absurd hid List.not_mem_nil⟩
   show(hpM n W f ex)[if n+1=n+1 then n+1+e else n+1]? =_
   rw[if_pos rfl,←ZaG,ZfO,he,Zhp (p:=0) (fun j hj=>absurd hj (Nat.not_lt_zero j)) y (fun id hid=>by rw[hy]at hid;exact absurd hid List.not_mem_nil)]
  ·have same: ∀ex':List SM,(hpM n W f ex')[j]? =(hpM n W f [])[j]? :=by
    intro ex'
    have h1:hpM n W f ex'=hpM n W f []++ex':=by rw[hpM,hpM,List.nil_append,List.nil_append,List.append_nil,List.cons_append]
    rw[h1,List.getElem?_append_left (by rw[ZbF];simp;omega)]
   have hb:=Zoz (n:=n) (W:=W) (f:=f) (ex:=[y]) (fun m hm=>by rw[List.mem_singleton.1 hm];exact hy) m (List.mem_of_getElem? hm)
   have hb2: ∀id∈Zfg m,id<n+1:=by
    intro id hid
    rw[same [y]]at hm
    have:=Zoz (n:=n) (W:=W) (f:=f) (ex:=[]) (fun m hm=>absurd hm List.not_mem_nil) m (List.mem_of_getElem? hm) id hid
    rw[ZbF]at this
    exact this
   refine⟨?_,fun id hid=>hb id hid⟩
   show(hpM n W f ex)[if j=n+1 then n+1+e else j]? =_
   rw[if_neg hj,same ex,←same [y],hm,Zhp (p:=n+1) (fun j hj=>if_neg (by omega)) m hb2]
theorem ZfS {F:Nat} {hp:List SM} {tm:TM} {k:Nat} {ct:CT} {tm':TM} (hF:F≤hp.length) (hk:ZbQ k tm=some .nils) (htm: ∀i V,i≠k→ZbQ i tm'=some V→ZbQ i tm=some V) (hk':ZbQ k tm'=some (.ref hp.length 0 0 none)):Ent F tm hp tm' (hp++ [.row ct [] true]):=by
 refine⟨fun φ st hFφ hs=> ?_⟩
 have hlen:=hs.hp.len
 have ext: ∀id,id<hp.length→(φ++ [none])[id]? =φ[id]? :=fun id h=>List.getElem?_append_left (by omega)
 have le:Le φ (φ++ [none]):=fun id o h=>by rw[List.getElem?_append_left (List.getElem?_eq_some_iff.1 h).1];exact h
 have new:(φ++ [(none:Option Nat)])[hp.length]? =some none:=by rw[List.getElem?_append_right (by omega),hlen,Nat.sub_self];rfl
 refine⟨φ++ [none],fun id hid=>ext id (by omega), ?_, ?_⟩
 ·intro i V hV
  by_cases e:i=k
  ·subst e
   rw[hk']at hV;cases hV
   obtain⟨q,h1,h2⟩:=hs.tm _ _ hk
   refine⟨q,h1, ?_⟩
   simp only[RV]at h2⊢
   subst h2
   exact .inr ⟨new,rfl,trivial,trivial,rfl⟩
  ·obtain⟨q,h1,h2⟩:=hs.tm _ _ (htm i V e hV)
   exact⟨q,h1,RV.mono le _ _ h2⟩
 ·refine⟨by simp[hlen], ?_, ?_⟩
  ·intro id sm o hsm ho
   by_cases hid:id<hp.length
   ·rw[List.getElem?_append_left hid]at hsm
    rw[ext id hid]at ho
    exact RM.mono le (fun _ _ _=>rfl) (hs.hp.row id sm o hsm ho)
   ·have hidl:=(List.getElem?_eq_some_iff.1 hsm).1
    simp at hidl
    have e:id=hp.length:=by omega
    subst e
    rw[List.getElem?_append_right (Nat.le_refl _),Nat.sub_self]at hsm
    cases hsm
    rw[new]at ho;cases ho
    rfl
  ·intro id id' sm sm' a hne h1 h2 h3 h4 h5 h6
   have lt: ∀id sm,(hp++ [SM.row ct [] true])[id]? =some sm→(φ++ [none])[id]? =some (some a)→id<hp.length:=by
    intro id sm h1 h5
    rcases Nat.lt_or_ge id hp.length with h|h
    ·exact h
    ·have hidl:=(List.getElem?_eq_some_iff.1 h1).1
     simp at hidl
     have e:id=hp.length:=by omega
     subst e
     rw[new]at h5;cases h5
   have l1:=lt id sm h1 h5
   have l2:=lt id' sm' h2 h6
   rw[List.getElem?_append_left l1]at h1
   rw[List.getElem?_append_left l2]at h2
   rw[ext id l1]at h5
   rw[ext id' l2]at h6
   exact hs.hp.inj id id' sm sm' a hne h1 h2 h3 h4 h5 h6
end
end Go.Proofs.YtdnodlkdndfplaaGreatDoor
