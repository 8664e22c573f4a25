/-
 The evaluator of the model's code on plain values, with its soundness and its walking rules (part 3).
-/
import Derived.Test.YtdnodlkdndfplaaGreatDoorAmB
import Derived.IntWalk
set_option linter.constructorNameAsVariable false
set_option linter.unusedSimpArgs false
set_option linter.unusedVariables false
set_option linter.unusedSectionVars false
/-
 One rule for each operation.
-/
namespace Go.Am
section
variable {P : Program} {h : Hints} {E : Ev} {H : List Mem} {ρ : Operand → Option PV} {N : Nat} {ds : List (Option Tmp)}
noncomputable def Znq (P:Program) (h:Hints) (E:Ev) (N:Nat) (ds:List (Option Tmp)) (dst:Option Tmp) (l:List Oper) (tm:List (Nat×PV)) (r:Zi9):Option St:=
 r.bind fun x=>(ZdD N dst x.1 tm).bind fun tm'=>ZcP P h E N ds l ⟨tm',x.2⟩
noncomputable def ZtE (P:Program) (h:Hints) (E:Ev) (N:Nat) (ds:List (Option Tmp)) (dst:Option Tmp) (op:Op) (l:List Oper) (tm:List (Nat×PV)) (H:List Mem) (g:Option Bool):Option St:=
 g.bind fun b=>bif b then Znq P h E N ds dst l tm (opE P h E H (ev tm) op)else Znq P h E N ds dst l tm (some (.tup [],H))
theorem ZsO (dst:Option Tmp) (op:Op) (ty:TypeId) (pos:String) (after:Array Edge) (l:List Oper) (tm:List (Nat×PV)):
 ZcP P h E N ds (⟨dst,op,ty,pos,after,none⟩::l) ⟨tm,H⟩=Znq P h E N ds dst l tm (opE P h E H (ev tm) op):=by
 simp only[ZcP,Znq]
 congr 1
 funext x
 cases ZdD N dst x.1 tm<;>rfl
theorem ZnH (dst:Option Tmp) (op:Op) (ty:TypeId) (pos:String) (after:Array Edge) (j:Nat) (w:Bool) (l:List Oper) (tm:List (Nat×PV)):
 ZcP P h E N ds (⟨dst,op,ty,pos,after,some (j,w)⟩::l) ⟨tm,H⟩=ZtE P h E N ds dst op l tm H (want ds tm j w):=by
 simp only[ZcP,ZtE]
 congr 1
 funext b
 cases b with
 |false=>
  simp only[cond_false,Znq,Option.bind_some]
  cases ZdD N dst (.tup []) tm<;>rfl
 |true=>
  simp only[cond_true,Znq,Option.bind_assoc]
  congr 1
  funext x
  cases ZdD N dst x.1 tm<;>rfl
theorem ZnL (dst:Option Tmp) (op:Op) (l:List Oper) (tm:List (Nat×PV)):ZtE P h E N ds dst op l tm H (some true)=Znq P h E N ds dst l tm (opE P h E H (ev tm) op):=rfl
theorem ZhF (dst:Option Tmp) (op:Op) (l:List Oper) (tm:List (Nat×PV)):ZtE P h E N ds dst op l tm H (some false)=Znq P h E N ds dst l tm (some (.tup [],H)):=rfl
noncomputable def Zrc:Option St→Option (Ex×St)
 |some s=>some (.normal,s)
 |none=>none
noncomputable def ZrE (w:Bool):Option PV→Option Bool
 |some (.bool b)=>some (b==w)
 |some (.tup [])=>some false
 |_=>none
theorem Zrq (j:Nat) (w:Bool) (tm:List (Nat×PV)):want ds tm j w=ZrE w (((ds[j]?).bind id).bind (get tm)):=by
 simp only[want]
 generalize((ds[j]?).bind id).bind (get tm)=x
 cases x with
 |none=>rfl
 |some v=>cases v<;>first
  |rfl
  |(rename_i vs;cases vs<;>rfl)
theorem ZsU (f:FuncId) (args:Array Operand) (ts:Array TypeId):opE P h E H ρ (.call ⟨.value (.func f),args,ts⟩)=(ZaE ρ args.toList).bind fun vs=>ZbE h E f vs H:=by
 show(if h.opn f then Zjf h E H ρ f ⟨.value (.func f),args,ts⟩else Zhr H (Zdv h E H H.length ρ f ⟨.value (.func f),args,ts⟩))=_
 cases ho:h.opn f with
 |true=>rfl
 |false=>
  simp only[Bool.false_eq_true,if_false,Zdv,ho,ZbE]
  cases ZaE ρ args.toList with
  |none=>rfl
  |some vs=>rfl
theorem Zan {x:Int} (h1: -9223372036854775808≤x) (h2:x≤9223372036854775807):IntKind.i64.wrap x=x:=by
 rw[IntKind.wrap_i64];omega
theorem Zlw {t:TypeId} {n:Nat} (ht:Zpr P t=some true) (hn:ZaG P t=some n) (cs:List PV) (off:Nat) (hle:off+n≤cs.length):Zcd P t cs off=some (.agg ((cs.drop off).take n)):=by
 simp only[Zcd,ht,hn,Option.bind_some]
 rw[if_pos hle]
noncomputable def ZkM (P:Program) (h:Hints) (E:Ev) (N:Nat) (ls:List Nat):List Oper→Nat→List (Nat×Oper×List (Nat×PV)×PV)→St→Option St
 | [],_,_,s=>some s
 |⟨dst,op,ty,pos,after,none⟩::l,i,acc,s=>bif has i ls
  then(Zaz P h E s.hp (ev s.tm) ⟨dst,op,ty,pos,after,none⟩).bind fun v=>(ZdD N dst v s.tm).bind fun tm=>ZkM P h E N ls l (i+1) ((i,⟨dst,op,ty,pos,after,none⟩,s.tm,v)::acc) ⟨tm,s.hp⟩
  else(opE P h E s.hp (ev s.tm) op).bind fun x=>(ZdD N dst x.1 s.tm).bind fun tm=>(Zc0 P h E (Zbl h ⟨dst,op,ty,pos,after,none⟩ acc) x.2).bind fun _=>ZkM P h E N ls l (i+1) (Zbl h ⟨dst,op,ty,pos,after,none⟩ acc) ⟨tm,x.2⟩
 |_::_,_,_,_=>none
noncomputable def noG:List Oper→Bool
 | []=>true
 |⟨_,_,_,_,_,none⟩::l=>noG l
 |_::_=>false
theorem Zny (N:Nat) (ops:Array Oper) (ls:List Nat): ∀ (l:List Oper) (i:Nat) (acc:List (Nat×Oper×List (Nat×PV)×PV)) (s:St),noG l=true→ZaK P h E N ops ls l i acc s=ZkM P h E N ls l i acc s
 | [],_,_,s,_=>rfl
 |⟨dst,op,ty,pos,after,some g⟩::l,i,acc,s,hg=>by cases hg
 |⟨dst,op,ty,pos,after,none⟩::l,i,acc,s,hg=>by
  show(Zd8 P h E N ops ls i ⟨dst,op,ty,pos,after,none⟩ s).bind (fun s'=>bif has i ls then(ZpR P h E ops i ⟨dst,op,ty,pos,after,none⟩ s acc).bind fun acc'=>ZaK P h E N ops ls l (i+1) acc' s' else(Zc0 P h E (Zbl h ⟨dst,op,ty,pos,after,none⟩ acc) s'.hp).bind fun _=>ZaK P h E N ops ls l (i+1) (Zbl h ⟨dst,op,ty,pos,after,none⟩ acc) s')=_
  have ih:=fun j acc s=>Zny N ops ls l j acc s hg
  cases hi:has i ls with
  |true=>
   simp only[ZkM,Zd8,hi,cond_true,Zpl,ZcD,Option.bind_some,ZpR]
   cases hlo:Zaz P h E s.hp (ev s.tm) ⟨dst,op,ty,pos,after,none⟩with
   |none=>rfl
   |some v=>
    simp only[Option.bind_some,Option.map_some]
    cases ZdD N dst v s.tm with
    |none=>rfl
    |some tm=>simp only[Option.map_some,Option.bind_some];exact ih _ _ _
  |false=>
   simp only[ZkM,Zd8,hi,cond_false,Zb1,ZcD,Option.bind_some,ZoI,cond_true]
   cases opE P h E s.hp (ev s.tm) op with
   |none=>rfl
   |some x=>
    simp only[Option.bind_some]
    cases ZdD N dst x.1 s.tm with
    |none=>rfl
    |some tm=>
     simp only[Option.map_some,Option.bind_some]
     cases Zc0 P h E (Zbl h ⟨dst,op,ty,pos,after,none⟩ acc) x.2 with
     |none=>rfl
     |some _=>simp only[Option.bind_some];exact ih _ _ _
noncomputable def Zut (P:Program) (h:Hints) (E:Ev) (N:Nat) (ls:List Nat) (ops:Array Oper) (s:St):Option St:=Zmp P h E N ls ops s
theorem Zoy (N:Nat) (j:Nat) (ls:List Nat) (ops:Array Oper) (s:St) (hg:noG ops.toList=true):Zut P h E N (j::ls) ops s=ZkM P h E N (j::ls) ops.toList 0 [] s:=Zny N ops _ _ _ _ _ hg
theorem ZqE (c:Cx) (i:Nat) (ops:Array Oper) (d:Bool) (s:St):exS P h E c (.region i ops d) s=Zrc (Zut P h E c.N (h.light c.fid i) (rgo (h.perm c.fid i) ops) s):=by
 show(Zmp P h E c.N (h.light c.fid i) (rgo (h.perm c.fid i) ops) s).map _=_
 show _=Zrc (Zmp P h E c.N (h.light c.fid i) (rgo (h.perm c.fid i) ops) s)
 cases Zmp P h E c.N (h.light c.fid i) (rgo (h.perm c.fid i) ops) s<;>rfl
noncomputable def ZsL (P:Program) (h:Hints) (E:Ev) (N:Nat) (ls:List Nat) (l:List Oper) (i:Nat) (acc:List (Nat×Oper×List (Nat×PV)×PV)) (s:St):Option Unit→Option St
 |some _=>ZkM P h E N ls l i acc s
 |none=>none
noncomputable def Zsn (P:Program) (h:Hints) (E:Ev) (N:Nat) (ls:List Nat) (dst:Option Tmp) (l:List Oper) (i:Nat) (acc:List (Nat×Oper×List (Nat×PV)×PV)) (tm:List (Nat×PV)):Zi9→Option St
 |some x=>(ZdD N dst x.1 tm).bind fun tm'=>ZsL P h E N ls l (i+1) acc ⟨tm',x.2⟩ (Zc0 P h E acc x.2)
 |none=>none
noncomputable def Zs6 (P:Program) (h:Hints) (E:Ev) (N:Nat) (ls:List Nat) (dst:Option Tmp) (o:Oper) (l:List Oper) (i:Nat) (acc:List (Nat×Oper×List (Nat×PV)×PV)) (tm:List (Nat×PV)) (H:List Mem):Option PV→Option St
 |some v=>(ZdD N dst v tm).bind fun tm'=>ZkM P h E N ls l (i+1) ((i,o,tm,v)::acc) ⟨tm',H⟩
 |none=>none
theorem ZmQ (ls:List Nat) (N:Nat) (dst:Option Tmp) (op:Op) (ty:TypeId) (pos:String) (after:Array Edge) (l:List Oper) (i:Nat) (acc:List (Nat×Oper×List (Nat×PV)×PV)) (tm:List (Nat×PV)) (H:List Mem) (hi:has i ls=false):ZkM P h E N ls (⟨dst,op,ty,pos,after,none⟩::l) i acc ⟨tm,H⟩=Zsn P h E N ls dst l i (Zbl h ⟨dst,op,ty,pos,after,none⟩ acc) tm (opE P h E H (ev tm) op):=by
 simp only[ZkM,hi,cond_false]
 cases opE P h E H (ev tm) op with
 |none=>rfl
 |some x=>
  simp only[Option.bind_some,Zsn]
  congr 1
  funext tm'
  cases Zc0 P h E (Zbl h ⟨dst,op,ty,pos,after,none⟩ acc) x.2<;>rfl
theorem Zm8 (ls:List Nat) (N:Nat) (dst:Option Tmp) (op:Op) (ty:TypeId) (pos:String) (after:Array Edge) (l:List Oper) (i:Nat) (acc:List (Nat×Oper×List (Nat×PV)×PV)) (tm:List (Nat×PV)) (H:List Mem) (hi:has i ls=true):ZkM P h E N ls (⟨dst,op,ty,pos,after,none⟩::l) i acc ⟨tm,H⟩=Zs6 P h E N ls dst ⟨dst,op,ty,pos,after,none⟩ l i acc tm H (Zaz P h E H (ev tm) ⟨dst,op,ty,pos,after,none⟩):=by
 simp only[ZkM,hi,cond_true]
 cases Zaz P h E H (ev tm) ⟨dst,op,ty,pos,after,none⟩with
 |none=>rfl
 |some v=>rfl
noncomputable def Zly (P:Program) (h:Hints) (E:Ev) (acc:List (Nat×Oper×List (Nat×PV)×PV)) (H:List Mem) (v:PV):Option PV→Option Unit
 |some u=>bif ZdV u v then Zc0 P h E acc H else none
 |none=>none
theorem ZmH (i:Nat) (o:Oper) (tm:List (Nat×PV)) (v:PV) (acc:List (Nat×Oper×List (Nat×PV)×PV)) (H:List Mem):Zc0 P h E ((i,o,tm,v)::acc) H=Zly P h E acc H v (Zaz P h E H (ev tm) o):=by
 show(Zaz P h E H (ev tm) o).bind (fun u=>bif ZdV u v then Zc0 P h E acc H else none)=_
 cases Zaz P h E H (ev tm) o<;>rfl
theorem Zks (acc:List (Nat×Oper×List (Nat×PV)×PV)) (H:List Mem) (u v:PV) (hs:ZdV u v=true):Zly P h E acc H v (some u)=Zc0 P h E acc H:=by
 simp only[Zly,hs,cond_true]
theorem Zcj (v:Option PV):((val v).bind fun x=>match x with|(v,[],[])=>some v|_=>none)=v:=by cases v<;>rfl
section
variable (dst : Option Tmp) (ty : TypeId) (pos : String) (after : Array Edge) (g : Option (Nat × Bool))
theorem ZdL (t:TypeId) (a:Operand):Zaz P h E H ρ ⟨dst, .load t a,ty,pos,after,g⟩=Zhn P H t (ρ a):=Zcj _
theorem Zbt (t:TypeId) (x i:Operand):Zaz P h E H ρ ⟨dst, .indexAddr t x i,ty,pos,after,g⟩=ZaO P H t (ρ x) (ρ i):=Zcj _
theorem ZhW (x:Operand):Zaz P h E H ρ ⟨dst, .move x,ty,pos,after,g⟩=ρ x:=Zcj _
end
noncomputable def Zcy (r:Nat):Code→Option Code
 | .seq a b=>match Zcy r a with
  |some c=>some c
  |none=>Zcy r b
 | .cond _ a b=>match Zcy r a with
  |some c=>some c
  |none=>Zcy r b
 | .block _ b=>Zcy r b
 | .loop b=>bif Nat.beq (Zdd b) r then some b else Zcy r b
 | .scope b=>Zcy r b
 |_=>none
noncomputable def ZdY (f:Func):Code:=match f.body with|some c=>c|none=> .skip
noncomputable def ZeH (f:Func) (r:Nat):Code:=match Zcy r (ZdY f)with|some c=>c|none=> .skip
def Flat (v:PV):Prop:=ZbN v=[]∧Za0 v=true∧ ∀l,ren l v=v
theorem Zn9:Flat .nils:=⟨rfl,rfl,fun _=>rfl⟩
theorem ZqM (es:List (List PV)):Flat (.lst es):=⟨rfl,rfl,fun _=>rfl⟩
theorem Sl.flat {q:PV} {es:List (List PV)} (hq:Sl q es):Flat q:=by
 rcases hq with⟨rfl,_⟩|rfl
 ·exact Zn9
 ·exact ZqM _
end
end Go.Am
/-
 Rules for calls, for what is built, for strings and maps.
-/
namespace Go.Am
section
variable {P : Program} {h : Hints} {E : Ev} {H : List Mem} {ρ : Operand → Option PV}
theorem ZsQ {s d:TypeId} (hs:(P.underlying s).isSome=true) (hd:P.underlying d=some .string) (k:IntKind) {n:Int} (h0:0≤n) (h1:n<128):Zb0 P H s d (.int k n)=some (.str ⟨#[UInt8.ofNat n.toNat]⟩):=by
 unfold Zb0
 obtain⟨x,hx⟩:=Option.isSome_iff_exists.1 hs
 rw[hx,hd]
 cases x<;>simp[h0,h1]
theorem Zma (b:Bool):exp Zav H (.bool b)=some (.bool b):=rfl
def Plain (v:PV):Prop:= ∀n H,exp (n+1) H v=some v
theorem Zm4:Plain .nils:=fun _ _=>rfl
theorem Zor (es:List (List PV)):Plain (.lst es):=fun _ _=>rfl
theorem Sl.plain {q:PV} {es:List (List PV)} (hq:Sl q es):Plain q:=by
 rcases hq with⟨rfl,_⟩|rfl
 ·exact Zm4
 ·exact Zor _
theorem Plain.exp {v:PV} (hv:Plain v):exp Zav H v=some v:=hv 39 H
theorem Sl.rch {q:PV} {es:List (List PV)} (hq:Sl q es):rch Zav H q=[]:=by
 rcases hq with⟨rfl,_⟩|rfl<;>rfl
end
end Go.Am
/-
 Rules for own memory numbered anew.
-/
namespace Go.Am
section
variable {P : Program} {h : Hints} {E : Ev} {H : List Mem}
noncomputable def Zl8 (tm:List (Nat×PV)) (H:List Mem) (ids:List Nat):Option St:=
 if tm.all (fun x=>Za0 x.2)=true then
  (ZaE (fun i=>(H[i]?).bind fun m=>if(okM m&&(Zkk m).all ids.contains)=true then some (Zk2 ids m)else none) ids).map fun H'=>⟨tm.map fun x=>(x.1,ren ids x.2),H'⟩
 else none
noncomputable def Zt0 (tm:List (Nat×PV)):List Nat:=(tm.flatMap fun x=>ZbN x.2).foldl Zbq []
noncomputable def Zdo (H:List Mem) (ids:List Nat):List Nat:=(ids.flatMap (Zkn H)).foldl Zbq ids
theorem ZkJ (tm:List (Nat×PV)):Zc6 tm H=Zl8 tm H (Zdo H (Zdo H (Zdo H (Zt0 tm)))):=rfl
noncomputable def ZtR:Option Mem→List Nat
 |some m=>Zkk m
 |none=> []
theorem Zql (i:Nat):Zkn H i=ZtR H[i]? :=by
 unfold Zkn ZtR
 cases H[i]? <;>rfl
theorem Zov (m:Mem):ZtR (some m)=Zkk m:=rfl
theorem Zet {m:Mem} (hm:Zem m=true):Zkk m=[]:=by simp[Zkk,hm]
theorem Zil {m:Mem} (hm:Zem m=true):okM m=true:=by simp[okM,hm]
theorem ZgV {m:Mem} (hm:Zem m=true) (l:List Nat):Zk2 l m=m:=by simp[Zk2,hm]
theorem ZnK (es:List (List PV)) (z:Nat) (m:Bool):Zem (.row es z m)=es.all fun c=>c.all Zfb:=rfl
theorem ZoQ {es:List (List PV)} (he: ∀c∈es,∀v∈c,Zfb v=true) (z:Nat) (m:Bool):Zem (.row es z m)=true:=by
 rw[ZnK,List.all_eq_true]
 exact fun c hc=>List.all_eq_true.2 (he c hc)
theorem Sl.ids {q:PV} {es:List (List PV)} (hq:Sl q es):ZbN q=[]∧Za0 q=true∧(∀l,ren l q=q)∧Zbs q=[]∧Zcr q=true∧(∀l,Zhw l q=q)∧Zfb q=true:=by
 rcases hq with⟨rfl,_⟩|rfl<;>exact⟨rfl,rfl,fun _=>rfl,rfl,rfl,fun _=>rfl,rfl⟩
theorem Flat.ids {v:PV} (hv:Flat v):ZbN v=[]∧Za0 v=true∧ ∀l,ren l v=v:=hv
end
end Go.Am
/-
 What the evaluator's call gives, as a contract of the model: for walks in the kit's own calculus.
-/
namespace Go.Am
open Go.RowKit
section
variable [Laid] {P : Program} {h : Hints} {E : Ev}
end
end Go.Am
/-
 Hints with functions whose contracts were proved otherwise.
-/
namespace Go.Am
section
variable [Laid] {P : Program} {h : Hints}
noncomputable def withPrims (h:Hints) (p:FuncId→Option (List PV→Option PV)):Hints:={h with prim:=p}
variable {p : FuncId → Option (List PV → Option PV)}
theorem ZgC (ls:List Nat): ∀ (os:List Oper) (i:Nat),Zhj (withPrims h p) ls os i=Zhj h ls os i
 | [],_=>rfl
 |o::os,i=>by
  simp only[Zhj,ZgC ls os]
  rfl
theorem Zjs (ls:List Nat) (ops:Array Oper):ZeZ (withPrims h p) ls ops=ZeZ h ls ops:=by
 simp only[ZeZ,ZgC]
 rfl
theorem Za7 (f:FuncId): ∀c:Code,ZaQ (withPrims h p) f c=ZaQ h f c
 | .region _ _ _=>by simp only[ZaQ,Zjs];rfl
 | .seq a b=>by simp only[ZaQ,Za7 f a,Za7 f b]
 | .cond _ a b=>by simp only[ZaQ,Za7 f a,Za7 f b]
 | .block _ b=>by simp only[ZaQ,Za7 f b]
 | .loop b=>by simp only[ZaQ,Za7 f b]
 | .skip| .label _| .exit _| .ret| .goto _| .refuse _| .rangeFunc _ _ _ _| .scope _=>rfl
theorem Zlf (f:FuncId):Zi7 P (withPrims h p) f=Zi7 P h f:=by
 simp only[Zi7,Za7]
theorem ZfL (hS:Static P h) (hp: ∀f,(p f).isSome=true→Zrf P f):Static P (withPrims h p):=
 ⟨hS.mixed,fun f hf=>by rw[Zlf];exact hS.fns f hf,hp⟩
end
end Go.Am
