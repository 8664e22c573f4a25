/-
 Matrices given by functions, as own rows; what is behind the rows.
-/
import Derived.Test.YtdnodlkdndfplaaGreatDoorM3
import Derived.Test.YtdnodlkdndfplaaGreatDoorLb
set_option linter.constructorNameAsVariable false
set_option linter.unusedSimpArgs false
set_option linter.unusedVariables false
namespace Go.Proofs.YtdnodlkdndfplaaGreatDoor
open Go.Am Go.Tx Dv Go.Lib
set_option maxRecDepth 100000
def ZlP (W:Nat) (g:Nat→Rat):List qct.D:=(List.range W).map fun j=>ZeO (g j)
def Zcm (n W:Nat) (f:Nat→Nat→Rat):List (List qct.D):=(List.range n).map fun i=>ZlP W (f i)
section
variable {n W i j : Nat} {f g : Nat → Nat → Rat} {u v : Nat → Rat} {q : Rat}
theorem Zce:(ZlP W u).length=W:=by rw[ZlP,List.length_map,List.length_range]
theorem Zj5 (hj:j<W):(ZlP W u)[j]? =some (ZeO (u j)):=by rw[ZlP,List.getElem?_map,List.getElem?_range hj];rfl
theorem Zjj (h: ∀j,j<W→u j=v j):ZlP W u=ZlP W v:=List.map_congr_left fun j hj=>by rw[h j (List.mem_range.1 hj)]
theorem Zt4 (hj:j<W):(ZlP W u).set j (ZeO q)=ZlP W (fun b=>if b=j then q else u b):=by
 apply List.ext_getElem?
 intro b
 by_cases hb:b<W
 ·rw[Zj5 hb]
  by_cases e:j=b
  ·subst e;rw[List.getElem?_set_self (by rw[Zce];exact hb),if_pos rfl]
  ·rw[List.getElem?_set_ne e,Zj5 hb,if_neg (fun x=>e x.symm)]
 ·rw[List.getElem?_eq_none (by rw[List.length_set,Zce];omega),List.getElem?_eq_none (by rw[Zce];omega)]
theorem ZaQ:(Zcm n W f).length=n:=by rw[Zcm,List.length_map,List.length_range]
theorem ZjS (hi:i<n):(Zcm n W f)[i]? =some (ZlP W (f i)):=by rw[Zcm,List.getElem?_map,List.getElem?_range hi];rfl
theorem Zew (h:i<(Zcm n W f).length):(Zcm n W f)[i]=ZlP W (f i):=by simp only[Zcm,List.getElem_map,List.getElem_range]
theorem Zjs (h: ∀i j,i<n→j<W→f i j=g i j):Zcm n W f=Zcm n W g:=List.map_congr_left fun i hi=>Zjj fun j hj=>h i j (List.mem_range.1 hi) hj
theorem ZuN (hi:i<n):(Zcm n W f).set i (ZlP W u)=Zcm n W (fun a=>if a=i then u else f a):=by
 apply List.ext_getElem?
 intro b
 by_cases hb:b<n
 ·rw[ZjS hb]
  by_cases e:i=b
  ·subst e;rw[List.getElem?_set_self (by rw[ZaQ];exact hb),if_pos rfl]
  ·rw[List.getElem?_set_ne e,ZjS hb,if_neg (fun x=>e x.symm)]
 ·rw[List.getElem?_eq_none (by rw[List.length_set,ZaQ];omega),List.getElem?_eq_none (by rw[ZaQ];omega)]
def hpM (n W:Nat) (f:Nat→Nat→Rat) (ex:List SM):List SM:= .many (.l qct) (Za4 1 (Zcm n W f)) true::([]++(Zbo qct (Zcm n W f)++ex))
theorem Zdu {ex:List SM} (h: ∀i j,i<n→j<W→f i j=g i j):hpM n W f ex=hpM n W g ex:=by rw[hpM,hpM,Zjs h]
theorem Zee {p:Nat} (hi:i<n):(Za4 p (Zcm n W f))[0+(i:Int).toNat]? =some (.ref (i+p) 0 W none):=by
 have h:i<(Zcm n W f).length:=by rw[ZaQ];exact hi
 rw[Int.toNat_natCast,Nat.zero_add,ZfP h,Zew h,Zce]
theorem Zvl {p:Nat}:Za4 p (Zcm n W f)=Za4 p (Zcm n W g):=by
 have: ∀ (l m:List (List qct.D)) (p:Nat),l.map List.length=m.map List.length→Za4 p l=Za4 p m:=by
  intro l
  induction l with
  |nil=>intro m p h;cases m with
   |nil=>rfl
   |cons _ _=>simp at h
  |cons x l ih=>intro m p h;cases m with
   |nil=>simp at h
   |cons y m=>
    simp only[List.map_cons,List.cons.injEq]at h
    rw[Za4,Za4,h.1,ih m (p+1) h.2]
 apply this
 rw[Zcm,Zcm,List.map_map,List.map_map]
 exact List.map_congr_left fun i _=>by simp only[Function.comp];rw[Zce,Zce]
theorem Ze7 {ex:List SM} (hi:i<n):nth (hpM n W f ex) (i+1)=some (.row qct (ZlP W (f i)) true):=by
 have h:i<(Zcm n W f).length:=by rw[ZaQ];exact hi
 rw[hpM,Zxg (fr:=[]) (p:=1) h rfl,Zew h]
theorem ZeY {ex:List SM} {e:Nat}:nth (hpM n W f ex) (n+1+e)=ex[e]? :=Zy5 (by rw[List.length_nil,ZaQ];omega)
theorem Zd4 {ex:List SM}:(hpM n W f ex).length=n+1+ex.length:=by rw[hpM,Zyq,List.length_nil,ZaQ];omega
theorem Zj0 {ex:List SM} {x:SM}:hpM n W f ex++ [x]=hpM n W f (ex++ [x]):=ZxC
theorem ZfF {ex:List SM} {e:Nat} {x:SM}:(hpM n W f ex).set (n+1+e) x=hpM n W f (ex.set e x):=Zx7 (by rw[List.length_nil,ZaQ];omega)
def Zzy (f:Nat→Nat→Rat) (i j:Nat) (q:Rat):Nat→Nat→Rat:=fun a b=>if a=i∧b=j then q else f a b
theorem Zti {ex:List SM} (hi:i<n) (hj:j<W):(hpM n W f ex).set (i+1) (.row qct ((ZlP W (f i)).set j (ZeO q)) true)=hpM n W (Zzy f i j q) ex:=by
 have h:i<(Zcm n W f).length:=by rw[ZaQ];exact hi
 rw[hpM,Zxs (fr:=[]) (p:=1) h rfl,Zt4 hj,Zs2,ZuN hi,hpM,Zvl (g:=Zzy f i j q)]
 have e:Zcm n W (fun a=>if a=i then(fun b=>if b=j then q else f i b)else f a)=Zcm n W (Zzy f i j q):=Zjs fun a b ha hb=>by
  unfold Zzy
  by_cases h1:a=i
  ·subst h1
   by_cases h2:b=j<;>simp[h2]
  ·simp[h1]
 rw[e]
theorem ZwJ {ex:List SM} (hex: ∀m∈ex,Zk3 m=[]): ∀m∈hpM n W f ex,∀id∈Zk3 m,id<(hpM n W f ex).length:=by
 intro m hm id hid
 rw[Zd4]
 rw[hpM,List.nil_append]at hm
 rcases List.mem_cons.1 hm with rfl|hm
 ·have:=Zf5 (by simpa only[Zk3]using hid)
  rw[ZaQ]at this;omega
 ·rcases List.mem_append.1 hm with hm|hm
  ·rw[Zbo]at hm
   obtain⟨x,_,rfl⟩:=List.mem_map.1 hm
   simp[Zk3]at hid
  ·rw[hex m hm]at hid;exact absurd hid List.not_mem_nil
theorem Zxi {F:Nat} {tm tm':TM} {ex:List SM} {c:SM} (hF:F≤n+1) (hex: ∀m∈ex,Zk3 m=[]) (htm:Zzw (n+1+ex.length) tm tm'):Ent F tm (hpM n W f (ex++ [c])) tm' (hpM n W f ex):=by
 refine Ent.eqs Zj0.symm ?_
 exact Zu4 (by rw[Zd4];omega) (by rw[Zd4];exact htm) (ZwJ hex)
theorem ZuY {F:Nat} {hp:List SM} {tm:TM} {k:Nat} {ct:CT} {tm':TM} (hF:F≤hp.length) (hk:Zcu k tm=some .nils) (htm: ∀i V,i≠k→Zcu i tm'=some V→Zcu i tm=some V) (hk':Zcu k tm'=some (.ref hp.length 0 0 none)):Ent F tm hp tm' (hp++ [.row ct [] true]):=by
 refine⟨fun φ st hFφ hs=> ?_⟩
 have hlen:=hs.hp.len
 have ext: ∀id,id<hp.length→(φ++ [none])[id]? =φ[id]? :=fun id h=>List.getElem?_append_left (by omega)
 have le:Le φ (φ++ [none]):=fun id o h=>by rw[List.getElem?_append_left (List.getElem?_eq_some_iff.1 h).1];exact h
 have new:(φ++ [(none:Option Nat)])[hp.length]? =some none:=by rw[List.getElem?_append_right (by omega),hlen,Nat.sub_self];rfl
 refine⟨φ++ [none],fun id hid=>ext id (by omega), ?_, ?_⟩
 ·intro i V hV
  by_cases e:i=k
  ·subst e
   rw[hk']at hV;cases hV
   obtain⟨q,h1,h2⟩:=hs.tm _ _ hk
   refine⟨q,h1, ?_⟩
   simp only[RV]at h2⊢
   subst h2
   exact .inr ⟨new,rfl,trivial,trivial,rfl⟩
  ·obtain⟨q,h1,h2⟩:=hs.tm _ _ (htm i V e hV)
   exact⟨q,h1,RV.mono le _ _ h2⟩
 ·refine⟨by simp[hlen], ?_, ?_⟩
  ·intro id sm o hsm ho
   by_cases hid:id<hp.length
   ·rw[List.getElem?_append_left hid]at hsm
    rw[ext id hid]at ho
    exact RM.mono le (fun _ _ _=>rfl) (hs.hp.row id sm o hsm ho)
   ·have hidl:=(List.getElem?_eq_some_iff.1 hsm).1
    simp at hidl
    have e:id=hp.length:=by omega
    subst e
    rw[List.getElem?_append_right (Nat.le_refl _),Nat.sub_self]at hsm
    cases hsm
    rw[new]at ho;cases ho
    rfl
  ·intro id id' sm sm' a hne h1 h2 h3 h4 h5 h6
   have lt: ∀id sm,(hp++ [SM.row ct [] true])[id]? =some sm→(φ++ [none])[id]? =some (some a)→id<hp.length:=by
    intro id sm h1 h5
    rcases Nat.lt_or_ge id hp.length with h|h
    ·exact h
    ·have hidl:=(List.getElem?_eq_some_iff.1 h1).1
     simp at hidl
     have e:id=hp.length:=by omega
     subst e
     rw[new]at h5;cases h5
   have l1:=lt id sm h1 h5
   have l2:=lt id' sm' h2 h6
   rw[List.getElem?_append_left l1]at h1
   rw[List.getElem?_append_left l2]at h2
   rw[ext id l1]at h5
   rw[ext id' l2]at h6
   exact hs.hp.inj id id' sm sm' a hne h1 h2 h3 h4 h5 h6
end
end Go.Proofs.YtdnodlkdndfplaaGreatDoor
/-
 Loops of lin.Reduce.
-/
namespace Go.Proofs.YtdnodlkdndfplaaGreatDoor
open Go.Am Go.Tx Dv Go.Lib
set_option maxRecDepth 100000
abbrev nt (k:Nat):SV:= .v (.i .i64) (k:Int)
theorem ZAq {q:Rat} (h:decide (q.num.sign=0)=true):q=0:=Rat.num_eq_zero.1 (Int.sign_eq_zero_iff_zero.1 (of_decide_eq_true h))
theorem ZAO {q:Rat} (h:decide (q.num.sign=0)=false):q≠0:=fun e=>by subst e;cases h
theorem cin {i n:Nat} (h:i<n):(0:Int)≤(i:Int)∧(i:Int)<((n:Nat):Int):=by omega
theorem Zjf {W k:Nat} {u:Nat→Rat} (h:k<W):(ZlP W u)[0+(k:Int).toNat]? =some (ZeO (u k)):=by rw[Int.toNat_natCast,Nat.zero_add];exact Zj5 h
theorem Zp8 {k:Nat} (h:k<1000000):IntKind.i64.wrap ((k:Int)+1)=((k+1:Nat):Int):=Zao (by omega) (by omega)
abbrev cQ (d:Rat):SM:= .cell (Za5 (QR d)) true
def fC (f g:Nat→Nat→Rat) (i j:Nat):Nat→Nat→Rat:=fun a b=>if a<i∨(a=i∧b<j)then g a b else f a b
end Go.Proofs.YtdnodlkdndfplaaGreatDoor
/-
 Loops and blocks of code that is known by what it does.
-/
namespace Go.Tx
open Go.Am
section
variable {P : Program} {h : Hints} {T : TypeId → TI} {hp : List SM} {tm : TM} {F : Nat}
theorem ZuO {σ:Type} {c:Cx} {b:Code} {k:Ex→TM→List SM→Prop} (hk:h.keep c.fid (Zc2 b)=none) (ctm:σ→TM) (chp:σ→List SM) (Inv:σ→Prop) (meas:σ→Nat)
 (round: ∀a,Inv a→CodeOK P h F c b (ctm a) (chp a) (ZwA F ctm chp Inv meas a k)) (a:σ) (hi:Inv a) (he:Ent F tm hp (ctm a) (chp a)):LoopOK P h F c b tm hp k:=by
 have main: ∀ (n:Nat) (a:σ),meas a=n→Inv a→ ∀φ st,F≤φ.length→SRep φ (ctm a) (chp a) st→ ∃e st' φ' tm' hp',(lim P h).ex c (.loop b) st=some (e,st')∧Fr F φ φ'∧SRep φ' tm' hp' st'∧k e tm' hp':=by
  intro n
  induction n using Nat.strongRecOn with
  |_ n ih=>
   intro a hm hi φ st hF hs
   obtain⟨e,st1,φ1,tm1,hp1,h1,h2,h3,h4⟩:=(round a hi).out φ st hF hs
   have hr:ZgU P h (lim P h) c b st=some (e,st1):=by unfold ZgU;rw[hk];exact h1
   cases e with
   |normal=>
    obtain⟨a',g1,g2,g3⟩:=h4
    obtain⟨φ2,g4,g5⟩:=g3.out φ1 st1 (h2.len hF) h3
    obtain⟨e,st',φ',tm',hp',f1,f2,f3,f4⟩:=ih (meas a') (by omega) a' rfl g1 φ2 st1 (g4.len (h2.len hF)) g5
    exact⟨e,st',φ',tm',hp',Zmc hr f1,(h2.trans g4).trans f2,f3,f4⟩
   |exit j=>exact⟨_,st1,φ1,tm1,hp1,ZfL (by simp) hr,h2,h3,h4⟩
   |ret=>exact⟨_,st1,φ1,tm1,hp1,ZfL (by simp) hr,h2,h3,h4⟩
 refine⟨fun φ st hF hs=> ?_⟩
 obtain⟨φ1,h1,h2⟩:=he.out φ st hF hs
 obtain⟨e,st',φ',tm',hp',f1,f2,f3,f4⟩:=main _ a rfl hi φ1 st (h1.len hF) h2
 exact⟨e,st',φ',tm',hp',f1,h1.trans f2,f3,f4⟩
theorem ZfI {c:Cx} {id:Nat} {b:Code} {k:Ex→TM→List SM→Prop} (hk:h.keepB c.fid id=none) (hb:CodeOK P h F c b tm hp (ZtJ id k)):CodeOK P h F c (.block id b) tm hp k:=by
 refine⟨fun φ st hF hs=> ?_⟩
 obtain⟨e,st1,φ1,tm1,hp1,h1,h2,h3,h4⟩:=hb.out φ st hF hs
 cases e with
 |normal=>exact⟨.normal,st1,φ1,tm1,hp1,by simp only[exS,h1,Option.bind_some,ZcB,hk,Zd1,Option.map_some],h2,h3,h4⟩
 |exit j=>
  simp only[ZtJ]at h4
  split at h4
  ·rename_i hj
   have hj:=Nat.eq_of_beq_eq_true hj
   exact⟨.normal,st1,φ1,tm1,hp1,by simp only[exS,h1,Option.bind_some,ZcB,hk,Zd1,Option.map_some,if_pos hj],h2,h3,h4⟩
  ·rename_i hj
   have hj:j≠id:=fun e=>by subst e;simp at hj
   exact⟨.exit j,st1,φ1,tm1,hp1,by simp only[exS,h1,Option.bind_some,ZcB,if_neg hj],h2,h3,h4⟩
 |ret=>exact⟨.ret,st1,φ1,tm1,hp1,by simp only[exS,h1,Option.bind_some,ZcB],h2,h3,h4⟩
theorem Zkl {c:Cx} {b:Code} {k:Ex→TM→List SM→Prop} (hl:LoopOK P h F c b tm hp k):CodeOK P h F c (.loop b) tm hp k:=⟨fun φ st hF hs=>by
 obtain⟨e,st',φ',tm',hp',h1,h2,h3,h4⟩:=LoopOK.out hl φ st hF hs
 exact⟨e,st',φ',tm',hp',h1,h2,h3,h4⟩⟩
theorem CodeOK.mono {c:Cx} {b:Code} {k k':Ex→TM→List SM→Prop} (hl:CodeOK P h F c b tm hp k) (hk: ∀e tm hp,k e tm hp→k' e tm hp):CodeOK P h F c b tm hp k':=
 ⟨fun φ st hF hs=>by
  obtain⟨e,st',φ',tm',hp',f1,f2,f3,f4⟩:=hl.out φ st hF hs
  exact⟨e,st',φ',tm',hp',f1,f2,f3,hk _ _ _ f4⟩⟩
theorem ZuG {t:CT} {x:t.D} {n:Nat}: ∀id∈Zd3 (.v t x),id<n:=fun _ h=>absurd h List.not_mem_nil
theorem ZtA {i a l n:Nat} {o:Option Nat} (h:i<n): ∀id∈Zd3 (.ref i a l o),id<n:=fun id hid=>by rw[List.mem_singleton.1 hid];exact h
theorem Zs3 {i a l n:Nat} (h:i<n): ∀id∈Zd3 (.ptr i a l),id<n:=fun id hid=>by rw[List.mem_singleton.1 hid];exact h
end
end Go.Tx
/-
 The loop of lin.Reduce that clears a column.
-/
namespace Go.Proofs.YtdnodlkdndfplaaGreatDoor
open Go.Am Go.Tx Dv Go.Lib
set_option maxRecDepth 100000
end Go.Proofs.YtdnodlkdndfplaaGreatDoor
/-
 lin.Reduce: the reduced echelon form.
-/
namespace Go.Proofs.YtdnodlkdndfplaaGreatDoor
open Go.Am Go.Tx Dv Go.Lib La
set_option maxRecDepth 100000
end Go.Proofs.YtdnodlkdndfplaaGreatDoor
/-
 What is not vast.
-/
namespace Go.Proofs.YtdnodlkdndfplaaGreatDoor
open Go.Am Go.Tx Dv Go.Lib
set_option maxRecDepth 100000
theorem ZxQ:dz 0 1:=⟨ZlL (by decide) (by decide),ZlL (by decide) (by decide)⟩
end Go.Proofs.YtdnodlkdndfplaaGreatDoor
