/-
 The evaluator of the model's code on plain values, with its soundness and its walking rules (part 3).
-/
import Derived.Test.YtdnodlkdndfplaaGreatDoorAmB
import Derived.IntWalk
set_option linter.constructorNameAsVariable false
set_option linter.unusedSimpArgs false
set_option linter.unusedVariables false
set_option linter.unusedSectionVars false
/-
 One rule for each operation.
-/
namespace Go.Am
section
variable {P : Program} {h : Hints} {E : Ev} {H : List Mem} {ρ : Operand → Option PV} {N : Nat} {ds : List (Option Tmp)}
noncomputable def ZqC (P:Program) (h:Hints) (E:Ev) (N:Nat) (ds:List (Option Tmp)) (dst:Option Tmp) (l:List Oper) (tm:List (Nat×PV)) (r:Zk2):Option St:=
 r.bind fun x=>(ZeB N dst x.1 tm).bind fun tm'=>Zdr P h E N ds l ⟨tm',x.2⟩
noncomputable def Zzz (P:Program) (h:Hints) (E:Ev) (N:Nat) (ds:List (Option Tmp)) (dst:Option Tmp) (op:Op) (l:List Oper) (tm:List (Nat×PV)) (H:List Mem) (g:Option Bool):Option St:=
 g.bind fun b=>bif b then ZqC P h E N ds dst l tm (opE P h E H (ev tm) op)else ZqC P h E N ds dst l tm (some (.tup [],H))
theorem Zzn (dst:Option Tmp) (op:Op) (ty:TypeId) (pos:String) (after:Array Edge) (l:List Oper) (tm:List (Nat×PV)):
 Zdr P h E N ds (⟨dst,op,ty,pos,after,none⟩::l) ⟨tm,H⟩=ZqC P h E N ds dst l tm (opE P h E H (ev tm) op):=by
 simp only[Zdr,ZqC]
 congr 1
 funext x
 cases ZeB N dst x.1 tm<;>rfl
theorem Zrj (dst:Option Tmp) (op:Op) (ty:TypeId) (pos:String) (after:Array Edge) (j:Nat) (w:Bool) (l:List Oper) (tm:List (Nat×PV)):
 Zdr P h E N ds (⟨dst,op,ty,pos,after,some (j,w)⟩::l) ⟨tm,H⟩=Zzz P h E N ds dst op l tm H (want ds tm j w):=by
 simp only[Zdr,Zzz]
 congr 1
 funext b
 cases b with
 |false=>
  simp only[cond_false,ZqC,Option.bind_some]
  cases ZeB N dst (.tup []) tm<;>rfl
 |true=>
  simp only[cond_true,ZqC,Option.bind_assoc]
  congr 1
  funext x
  cases ZeB N dst x.1 tm<;>rfl
theorem Zsn (dst:Option Tmp) (op:Op) (l:List Oper) (tm:List (Nat×PV)):Zzz P h E N ds dst op l tm H (some true)=ZqC P h E N ds dst l tm (opE P h E H (ev tm) op):=rfl
theorem ZiY (dst:Option Tmp) (op:Op) (l:List Oper) (tm:List (Nat×PV)):Zzz P h E N ds dst op l tm H (some false)=ZqC P h E N ds dst l tm (some (.tup [],H)):=rfl
noncomputable def Zv7:Option St→Option (Ex×St)
 |some s=>some (.normal,s)
 |none=>none
noncomputable def Zwy (w:Bool):Option PV→Option Bool
 |some (.bool b)=>some (b==w)
 |some (.tup [])=>some false
 |_=>none
theorem ZwY (j:Nat) (w:Bool) (tm:List (Nat×PV)):want ds tm j w=Zwy w (((ds[j]?).bind id).bind (get tm)):=by
 simp only[want]
 generalize((ds[j]?).bind id).bind (get tm)=x
 cases x with
 |none=>rfl
 |some v=>cases v<;>first
  |rfl
  |(rename_i vs;cases vs<;>rfl)
theorem ZyB (f:FuncId) (args:Array Operand) (ts:Array TypeId):opE P h E H ρ (.call ⟨.value (.func f),args,ts⟩)=(ZaP ρ args.toList).bind fun vs=>Zb5 h E f vs H:=by
 show(if h.opn f then Zl6 h E H ρ f ⟨.value (.func f),args,ts⟩else ZiQ H (Zd5 h E H H.length ρ f ⟨.value (.func f),args,ts⟩))=_
 cases ho:h.opn f with
 |true=>rfl
 |false=>
  simp only[Bool.false_eq_true,if_false,Zd5,ho,Zb5]
  cases ZaP ρ args.toList with
  |none=>rfl
  |some vs=>rfl
theorem Zao {x:Int} (h1: -9223372036854775808≤x) (h2:x≤9223372036854775807):IntKind.i64.wrap x=x:=by
 rw[IntKind.wrap_i64];omega
theorem Zpl {t:TypeId} {n:Nat} (ht:ZrK P t=some true) (hn:ZaR P t=some n) (cs:List PV) (off:Nat) (hle:off+n≤cs.length):ZcH P t cs off=some (.agg ((cs.drop off).take n)):=by
 simp only[ZcH,ht,hn,Option.bind_some]
 rw[if_pos hle]
noncomputable def ZnJ (P:Program) (h:Hints) (E:Ev) (N:Nat) (ls:List Nat):List Oper→Nat→List (Nat×Oper×List (Nat×PV)×PV)→St→Option St
 | [],_,_,s=>some s
 |⟨dst,op,ty,pos,after,none⟩::l,i,acc,s=>bif has i ls
  then(ZaH P h E s.hp (ev s.tm) ⟨dst,op,ty,pos,after,none⟩).bind fun v=>(ZeB N dst v s.tm).bind fun tm=>ZnJ P h E N ls l (i+1) ((i,⟨dst,op,ty,pos,after,none⟩,s.tm,v)::acc) ⟨tm,s.hp⟩
  else(opE P h E s.hp (ev s.tm) op).bind fun x=>(ZeB N dst x.1 s.tm).bind fun tm=>(ZdM P h E (ZbO h ⟨dst,op,ty,pos,after,none⟩ acc) x.2).bind fun _=>ZnJ P h E N ls l (i+1) (ZbO h ⟨dst,op,ty,pos,after,none⟩ acc) ⟨tm,x.2⟩
 |_::_,_,_,_=>none
noncomputable def noG:List Oper→Bool
 | []=>true
 |⟨_,_,_,_,_,none⟩::l=>noG l
 |_::_=>false
theorem Zr4 (N:Nat) (ops:Array Oper) (ls:List Nat): ∀ (l:List Oper) (i:Nat) (acc:List (Nat×Oper×List (Nat×PV)×PV)) (s:St),noG l=true→ZaW P h E N ops ls l i acc s=ZnJ P h E N ls l i acc s
 | [],_,_,s,_=>rfl
 |⟨dst,op,ty,pos,after,some g⟩::l,i,acc,s,hg=>by cases hg
 |⟨dst,op,ty,pos,after,none⟩::l,i,acc,s,hg=>by
  show(Zfg P h E N ops ls i ⟨dst,op,ty,pos,after,none⟩ s).bind (fun s'=>bif has i ls then(Zvi P h E ops i ⟨dst,op,ty,pos,after,none⟩ s acc).bind fun acc'=>ZaW P h E N ops ls l (i+1) acc' s' else(ZdM P h E (ZbO h ⟨dst,op,ty,pos,after,none⟩ acc) s'.hp).bind fun _=>ZaW P h E N ops ls l (i+1) (ZbO h ⟨dst,op,ty,pos,after,none⟩ acc) s')=_
  have ih:=fun j acc s=>Zr4 N ops ls l j acc s hg
  cases hi:has i ls with
  |true=>
   simp only[ZnJ,Zfg,hi,cond_true,Zta,Zdi,Option.bind_some,Zvi]
   cases hlo:ZaH P h E s.hp (ev s.tm) ⟨dst,op,ty,pos,after,none⟩with
   |none=>rfl
   |some v=>
    simp only[Option.bind_some,Option.map_some]
    cases ZeB N dst v s.tm with
    |none=>rfl
    |some tm=>simp only[Option.map_some,Option.bind_some];exact ih _ _ _
  |false=>
   simp only[ZnJ,Zfg,hi,cond_false,Zcw,Zdi,Option.bind_some,Zsi,cond_true]
   cases opE P h E s.hp (ev s.tm) op with
   |none=>rfl
   |some x=>
    simp only[Option.bind_some]
    cases ZeB N dst x.1 s.tm with
    |none=>rfl
    |some tm=>
     simp only[Option.map_some,Option.bind_some]
     cases ZdM P h E (ZbO h ⟨dst,op,ty,pos,after,none⟩ acc) x.2 with
     |none=>rfl
     |some _=>simp only[Option.bind_some];exact ih _ _ _
noncomputable def ZAx (P:Program) (h:Hints) (E:Ev) (N:Nat) (ls:List Nat) (ops:Array Oper) (s:St):Option St:=Zpz P h E N ls ops s
theorem Zr8 (N:Nat) (j:Nat) (ls:List Nat) (ops:Array Oper) (s:St) (hg:noG ops.toList=true):ZAx P h E N (j::ls) ops s=ZnJ P h E N (j::ls) ops.toList 0 [] s:=Zr4 N ops _ _ _ _ _ hg
theorem Zt7 (c:Cx) (i:Nat) (ops:Array Oper) (d:Bool) (s:St):exS P h E c (.region i ops d) s=Zv7 (ZAx P h E c.N (h.light c.fid i) (rgo (h.perm c.fid i) ops) s):=by
 show(Zpz P h E c.N (h.light c.fid i) (rgo (h.perm c.fid i) ops) s).map _=_
 show _=Zv7 (Zpz P h E c.N (h.light c.fid i) (rgo (h.perm c.fid i) ops) s)
 cases Zpz P h E c.N (h.light c.fid i) (rgo (h.perm c.fid i) ops) s<;>rfl
noncomputable def Zyc (P:Program) (h:Hints) (E:Ev) (N:Nat) (ls:List Nat) (l:List Oper) (i:Nat) (acc:List (Nat×Oper×List (Nat×PV)×PV)) (s:St):Option Unit→Option St
 |some _=>ZnJ P h E N ls l i acc s
 |none=>none
noncomputable def Zw9 (P:Program) (h:Hints) (E:Ev) (N:Nat) (ls:List Nat) (dst:Option Tmp) (l:List Oper) (i:Nat) (acc:List (Nat×Oper×List (Nat×PV)×PV)) (tm:List (Nat×PV)):Zk2→Option St
 |some x=>(ZeB N dst x.1 tm).bind fun tm'=>Zyc P h E N ls l (i+1) acc ⟨tm',x.2⟩ (ZdM P h E acc x.2)
 |none=>none
noncomputable def Zzh (P:Program) (h:Hints) (E:Ev) (N:Nat) (ls:List Nat) (dst:Option Tmp) (o:Oper) (l:List Oper) (i:Nat) (acc:List (Nat×Oper×List (Nat×PV)×PV)) (tm:List (Nat×PV)) (H:List Mem):Option PV→Option St
 |some v=>(ZeB N dst v tm).bind fun tm'=>ZnJ P h E N ls l (i+1) ((i,o,tm,v)::acc) ⟨tm',H⟩
 |none=>none
theorem ZpL (ls:List Nat) (N:Nat) (dst:Option Tmp) (op:Op) (ty:TypeId) (pos:String) (after:Array Edge) (l:List Oper) (i:Nat) (acc:List (Nat×Oper×List (Nat×PV)×PV)) (tm:List (Nat×PV)) (H:List Mem) (hi:has i ls=false):ZnJ P h E N ls (⟨dst,op,ty,pos,after,none⟩::l) i acc ⟨tm,H⟩=Zw9 P h E N ls dst l i (ZbO h ⟨dst,op,ty,pos,after,none⟩ acc) tm (opE P h E H (ev tm) op):=by
 simp only[ZnJ,hi,cond_false]
 cases opE P h E H (ev tm) op with
 |none=>rfl
 |some x=>
  simp only[Option.bind_some,Zw9]
  congr 1
  funext tm'
  cases ZdM P h E (ZbO h ⟨dst,op,ty,pos,after,none⟩ acc) x.2<;>rfl
theorem ZpO (ls:List Nat) (N:Nat) (dst:Option Tmp) (op:Op) (ty:TypeId) (pos:String) (after:Array Edge) (l:List Oper) (i:Nat) (acc:List (Nat×Oper×List (Nat×PV)×PV)) (tm:List (Nat×PV)) (H:List Mem) (hi:has i ls=true):ZnJ P h E N ls (⟨dst,op,ty,pos,after,none⟩::l) i acc ⟨tm,H⟩=Zzh P h E N ls dst ⟨dst,op,ty,pos,after,none⟩ l i acc tm H (ZaH P h E H (ev tm) ⟨dst,op,ty,pos,after,none⟩):=by
 simp only[ZnJ,hi,cond_true]
 cases ZaH P h E H (ev tm) ⟨dst,op,ty,pos,after,none⟩with
 |none=>rfl
 |some v=>rfl
noncomputable def ZoE (P:Program) (h:Hints) (E:Ev) (acc:List (Nat×Oper×List (Nat×PV)×PV)) (H:List Mem) (v:PV):Option PV→Option Unit
 |some u=>bif ZeS u v then ZdM P h E acc H else none
 |none=>none
theorem ZpR (i:Nat) (o:Oper) (tm:List (Nat×PV)) (v:PV) (acc:List (Nat×Oper×List (Nat×PV)×PV)) (H:List Mem):ZdM P h E ((i,o,tm,v)::acc) H=ZoE P h E acc H v (ZaH P h E H (ev tm) o):=by
 show(ZaH P h E H (ev tm) o).bind (fun u=>bif ZeS u v then ZdM P h E acc H else none)=_
 cases ZaH P h E H (ev tm) o<;>rfl
theorem Znx (acc:List (Nat×Oper×List (Nat×PV)×PV)) (H:List Mem) (u v:PV) (hs:ZeS u v=true):ZoE P h E acc H v (some u)=ZdM P h E acc H:=by
 simp only[ZoE,hs,cond_true]
theorem ZcK (v:Option PV):((val v).bind fun x=>match x with|(v,[],[])=>some v|_=>none)=v:=by cases v<;>rfl
section
variable (dst : Option Tmp) (ty : TypeId) (pos : String) (after : Array Edge) (g : Option (Nat × Bool))
theorem ZeM (t:TypeId) (a:Operand):ZaH P h E H ρ ⟨dst, .load t a,ty,pos,after,g⟩=ZiP P H t (ρ a):=ZcK _
theorem ZbX (t:TypeId) (x i:Operand):ZaH P h E H ρ ⟨dst, .indexAddr t x i,ty,pos,after,g⟩=Za7 P H t (ρ x) (ρ i):=ZcK _
theorem Zi6 (x:Operand):ZaH P h E H ρ ⟨dst, .move x,ty,pos,after,g⟩=ρ x:=ZcK _
end
noncomputable def Zc6 (r:Nat):Code→Option Code
 | .seq a b=>match Zc6 r a with
  |some c=>some c
  |none=>Zc6 r b
 | .cond _ a b=>match Zc6 r a with
  |some c=>some c
  |none=>Zc6 r b
 | .block _ b=>Zc6 r b
 | .loop b=>bif Nat.beq (Zc2 b) r then some b else Zc6 r b
 | .scope b=>Zc6 r b
 |_=>none
noncomputable def Zdv (f:Func):Code:=match f.body with|some c=>c|none=> .skip
noncomputable def ZcX (f:Func) (r:Nat):Code:=match Zc6 r (Zdv f)with|some c=>c|none=> .skip
def Flat (v:PV):Prop:=Zci v=[]∧Zbp v=true∧ ∀l,ren l v=v
theorem Zs0:Flat .nils:=⟨rfl,rfl,fun _=>rfl⟩
theorem Zvx (es:List (List PV)):Flat (.lst es):=⟨rfl,rfl,fun _=>rfl⟩
theorem Sl.flat {q:PV} {es:List (List PV)} (hq:Sl q es):Flat q:=by
 rcases hq with⟨rfl,_⟩|rfl
 ·exact Zs0
 ·exact Zvx _
end
end Go.Am
/-
 Rules for calls, for what is built, for strings and maps.
-/
namespace Go.Am
section
variable {P : Program} {h : Hints} {E : Ev} {H : List Mem} {ρ : Operand → Option PV}
theorem Zyt {s d:TypeId} (hs:(P.underlying s).isSome=true) (hd:P.underlying d=some .string) (k:IntKind) {n:Int} (h0:0≤n) (h1:n<128):Zct P H s d (.int k n)=some (.str ⟨#[UInt8.ofNat n.toNat]⟩):=by
 unfold Zct
 obtain⟨x,hx⟩:=Option.isSome_iff_exists.1 hs
 rw[hx,hd]
 cases x<;>simp[h0,h1]
theorem Zn5 (b:Bool):exp ZaE H (.bool b)=some (.bool b):=rfl
def Plain (v:PV):Prop:= ∀n H,exp (n+1) H v=some v
theorem Zqf:Plain .nils:=fun _ _=>rfl
theorem ZqQ (es:List (List PV)):Plain (.lst es):=fun _ _=>rfl
theorem Sl.plain {q:PV} {es:List (List PV)} (hq:Sl q es):Plain q:=by
 rcases hq with⟨rfl,_⟩|rfl
 ·exact Zqf
 ·exact ZqQ _
theorem Plain.exp {v:PV} (hv:Plain v):exp ZaE H v=some v:=hv 39 H
theorem Sl.rch {q:PV} {es:List (List PV)} (hq:Sl q es):rch ZaE H q=[]:=by
 rcases hq with⟨rfl,_⟩|rfl<;>rfl
end
end Go.Am
/-
 Rules for own memory numbered anew.
-/
namespace Go.Am
section
variable {P : Program} {h : Hints} {E : Ev} {H : List Mem}
noncomputable def ZoQ (tm:List (Nat×PV)) (H:List Mem) (ids:List Nat):Option St:=
 if tm.all (fun x=>Zbp x.2)=true then
  (ZaP (fun i=>(H[i]?).bind fun m=>if(okM m&&(ZmF m).all ids.contains)=true then some (Zni ids m)else none) ids).map fun H'=>⟨tm.map fun x=>(x.1,ren ids x.2),H'⟩
 else none
noncomputable def Zz0 (tm:List (Nat×PV)):List Nat:=(tm.flatMap fun x=>Zci x.2).foldl ZbY []
noncomputable def Zet (H:List Mem) (ids:List Nat):List Nat:=(ids.flatMap (ZmL H)).foldl ZbY ids
theorem Zny (tm:List (Nat×PV)):ZdD tm H=ZoQ tm H (Zet H (Zet H (Zet H (Zz0 tm)))):=rfl
noncomputable def ZzQ:Option Mem→List Nat
 |some m=>ZmF m
 |none=> []
theorem Zve (i:Nat):ZmL H i=ZzQ H[i]? :=by
 unfold ZmL ZzQ
 cases H[i]? <;>rfl
theorem ZrA (m:Mem):ZzQ (some m)=ZmF m:=rfl
theorem ZfW {m:Mem} (hm:Ze0 m=true):ZmF m=[]:=by simp[ZmF,hm]
theorem Zkj {m:Mem} (hm:Ze0 m=true):okM m=true:=by simp[okM,hm]
theorem ZhI {m:Mem} (hm:Ze0 m=true) (l:List Nat):Zni l m=m:=by simp[Zni,hm]
theorem ZsN (es:List (List PV)) (z:Nat) (m:Bool):Ze0 (.row es z m)=es.all fun c=>c.all Zgu:=rfl
theorem Zq6 {es:List (List PV)} (he: ∀c∈es,∀v∈c,Zgu v=true) (z:Nat) (m:Bool):Ze0 (.row es z m)=true:=by
 rw[ZsN,List.all_eq_true]
 exact fun c hc=>List.all_eq_true.2 (he c hc)
theorem Sl.ids {q:PV} {es:List (List PV)} (hq:Sl q es):Zci q=[]∧Zbp q=true∧(∀l,ren l q=q)∧ZbW q=[]∧Zc4 q=true∧(∀l,ZjK l q=q)∧Zgu q=true:=by
 rcases hq with⟨rfl,_⟩|rfl<;>exact⟨rfl,rfl,fun _=>rfl,rfl,rfl,fun _=>rfl,rfl⟩
theorem Flat.ids {v:PV} (hv:Flat v):Zci v=[]∧Zbp v=true∧ ∀l,ren l v=v:=hv
end
end Go.Am
/-
 What the evaluator's call gives, as a contract of the model: for walks in the kit's own calculus.
-/
namespace Go.Am
open Go.RowKit
section
variable [Laid] {P : Program} {h : Hints} {E : Ev}
end
end Go.Am
/-
 Hints with functions whose contracts were proved otherwise.
-/
namespace Go.Am
section
variable [Laid] {P : Program} {h : Hints}
noncomputable def withPrims (h:Hints) (p:FuncId→Option (List PV→Option PV)):Hints:={h with prim:=p}
variable {p : FuncId → Option (List PV → Option PV)}
theorem Zih (ls:List Nat): ∀ (os:List Oper) (i:Nat),ZiI (withPrims h p) ls os i=ZiI h ls os i
 | [],_=>rfl
 |o::os,i=>by
  simp only[ZiI,Zih ls os]
  rfl
theorem Zmk (ls:List Nat) (ops:Array Oper):ZfN (withPrims h p) ls ops=ZfN h ls ops:=by
 simp only[ZfN,Zih]
 rfl
theorem Zbz (f:FuncId): ∀c:Code,Zbd (withPrims h p) f c=Zbd h f c
 | .region _ _ _=>by simp only[Zbd,Zmk];rfl
 | .seq a b=>by simp only[Zbd,Zbz f a,Zbz f b]
 | .cond _ a b=>by simp only[Zbd,Zbz f a,Zbz f b]
 | .block _ b=>by simp only[Zbd,Zbz f b]
 | .loop b=>by simp only[Zbd,Zbz f b]
 | .skip| .label _| .exit _| .ret| .goto _| .refuse _| .rangeFunc _ _ _ _| .scope _=>rfl
theorem Zn0 (f:FuncId):ZkE P (withPrims h p) f=ZkE P h f:=by
 simp only[ZkE,Zbz]
theorem Zek (hS:Static P h) (hp: ∀f,(p f).isSome=true→Zwj P f):Static P (withPrims h p):=
 ⟨hS.mixed,fun f hf=>by rw[Zn0];exact hS.fns f hf,hp⟩
end
end Go.Am
