/-
 The evaluator of the model's code on plain values, with its soundness and its walking rules (part 3).
-/
import Derived.Test.YtgmjnhiakpcpbaaGreatDoorAmB
import Derived.IntWalk
set_option linter.constructorNameAsVariable false
set_option linter.unusedSimpArgs false
set_option linter.unusedVariables false
set_option linter.unusedSectionVars false
/-
 One rule for each operation.
-/
namespace Go.Am
section
variable {P : Program} {h : Hints} {E : Ev} {H : List Mem} {ρ : Operand → Option PV} {N : Nat} {ds : List (Option Tmp)}
noncomputable def Zn3 (P:Program) (h:Hints) (E:Ev) (N:Nat) (ds:List (Option Tmp)) (dst:Option Tmp) (l:List Oper) (tm:List (Nat×PV)) (r:ZjC):Option St:=
 r.bind fun x=>(Zef N dst x.1 tm).bind fun tm'=>Zdd P h E N ds l ⟨tm',x.2⟩
noncomputable def ZuM (P:Program) (h:Hints) (E:Ev) (N:Nat) (ds:List (Option Tmp)) (dst:Option Tmp) (op:Op) (l:List Oper) (tm:List (Nat×PV)) (H:List Mem) (g:Option Bool):Option St:=
 g.bind fun b=>bif b then Zn3 P h E N ds dst l tm (opE P h E H (ev tm) op)else Zn3 P h E N ds dst l tm (some (.tup [],H))
theorem ZtT (dst:Option Tmp) (op:Op) (ty:TypeId) (pos:String) (after:Array Edge) (l:List Oper) (tm:List (Nat×PV)):
 Zdd P h E N ds (⟨dst,op,ty,pos,after,none⟩::l) ⟨tm,H⟩=Zn3 P h E N ds dst l tm (opE P h E H (ev tm) op):=by
 simp only[Zdd,Zn3]
 congr 1
 funext x
 cases Zef N dst x.1 tm<;>rfl
theorem ZpH (dst:Option Tmp) (op:Op) (ty:TypeId) (pos:String) (after:Array Edge) (j:Nat) (w:Bool) (l:List Oper) (tm:List (Nat×PV)):
 Zdd P h E N ds (⟨dst,op,ty,pos,after,some (j,w)⟩::l) ⟨tm,H⟩=ZuM P h E N ds dst op l tm H (want ds tm j w):=by
 simp only[Zdd,ZuM]
 congr 1
 funext b
 cases b with
 |false=>
  simp only[cond_false,Zn3,Option.bind_some]
  cases Zef N dst (.tup []) tm<;>rfl
 |true=>
  simp only[cond_true,Zn3,Option.bind_assoc]
  congr 1
  funext x
  cases Zef N dst x.1 tm<;>rfl
theorem Zo2 (dst:Option Tmp) (op:Op) (l:List Oper) (tm:List (Nat×PV)):ZuM P h E N ds dst op l tm H (some true)=Zn3 P h E N ds dst l tm (opE P h E H (ev tm) op):=rfl
theorem Zio (dst:Option Tmp) (op:Op) (l:List Oper) (tm:List (Nat×PV)):ZuM P h E N ds dst op l tm H (some false)=Zn3 P h E N ds dst l tm (some (.tup [],H)):=rfl
noncomputable def ZrI:Option St→Option (Ex×St)
 |some s=>some (.normal,s)
 |none=>none
noncomputable def ZsX (w:Bool):Option PV→Option Bool
 |some (.bool b)=>some (b==w)
 |some (.tup [])=>some false
 |_=>none
theorem ZsP (j:Nat) (w:Bool) (tm:List (Nat×PV)):want ds tm j w=ZsX w (((ds[j]?).bind id).bind (get tm)):=by
 simp only[want]
 generalize((ds[j]?).bind id).bind (get tm)=x
 cases x with
 |none=>rfl
 |some v=>cases v<;>first
  |rfl
  |(rename_i vs;cases vs<;>rfl)
theorem Ztz (f:FuncId) (args:Array Operand) (ts:Array TypeId):opE P h E H ρ (.call ⟨.value (.func f),args,ts⟩)=(ZaP ρ args.toList).bind fun vs=>ZbZ h E f vs H:=by
 show(if h.opn f then Zj8 h E H ρ f ⟨.value (.func f),args,ts⟩else ZbE H (Zd0 h E H H.length ρ f ⟨.value (.func f),args,ts⟩))=_
 cases ho:h.opn f with
 |true=>rfl
 |false=>
  simp only[Bool.false_eq_true,if_false,Zd0,ho,ZbZ]
  cases ZaP ρ args.toList with
  |none=>rfl
  |some vs=>rfl
theorem Zdf {x:Int} (h1: -9223372036854775808≤x) (h2:x≤9223372036854775807):IntKind.i64.wrap x=x:=by
 rw[IntKind.wrap_i64];omega
theorem ZmH {t:TypeId} {n:Nat} (ht:Zn4 P t=some true) (hn:ZaR P t=some n) (cs:List PV) (off:Nat) (hle:off+n≤cs.length):ZcB P t cs off=some (.agg ((cs.drop off).take n)):=by
 simp only[ZcB,ht,hn,Option.bind_some]
 rw[if_pos hle]
noncomputable def ZlU (P:Program) (h:Hints) (E:Ev) (N:Nat) (ls:List Nat):List Oper→Nat→List (Nat×Oper×List (Nat×PV)×PV)→St→Option St
 | [],_,_,s=>some s
 |⟨dst,op,ty,pos,after,none⟩::l,i,acc,s=>bif has i ls
  then(ZaG P h E s.hp (ev s.tm) ⟨dst,op,ty,pos,after,none⟩).bind fun v=>(Zef N dst v s.tm).bind fun tm=>ZlU P h E N ls l (i+1) ((i,⟨dst,op,ty,pos,after,none⟩,s.tm,v)::acc) ⟨tm,s.hp⟩
  else(opE P h E s.hp (ev s.tm) op).bind fun x=>(Zef N dst x.1 s.tm).bind fun tm=>(ZcN P h E (ZbG h ⟨dst,op,ty,pos,after,none⟩ acc) x.2).bind fun _=>ZlU P h E N ls l (i+1) (ZbG h ⟨dst,op,ty,pos,after,none⟩ acc) ⟨tm,x.2⟩
 |_::_,_,_,_=>none
noncomputable def noG:List Oper→Bool
 | []=>true
 |⟨_,_,_,_,_,none⟩::l=>noG l
 |_::_=>false
theorem ZpR (N:Nat) (ops:Array Oper) (ls:List Nat): ∀ (l:List Oper) (i:Nat) (acc:List (Nat×Oper×List (Nat×PV)×PV)) (s:St),noG l=true→ZaZ P h E N ops ls l i acc s=ZlU P h E N ls l i acc s
 | [],_,_,s,_=>rfl
 |⟨dst,op,ty,pos,after,some g⟩::l,i,acc,s,hg=>by cases hg
 |⟨dst,op,ty,pos,after,none⟩::l,i,acc,s,hg=>by
  show(ZeC P h E N ops ls i ⟨dst,op,ty,pos,after,none⟩ s).bind (fun s'=>bif has i ls then(ZqS P h E ops i ⟨dst,op,ty,pos,after,none⟩ s acc).bind fun acc'=>ZaZ P h E N ops ls l (i+1) acc' s' else(ZcN P h E (ZbG h ⟨dst,op,ty,pos,after,none⟩ acc) s'.hp).bind fun _=>ZaZ P h E N ops ls l (i+1) (ZbG h ⟨dst,op,ty,pos,after,none⟩ acc) s')=_
  have ih:=fun j acc s=>ZpR N ops ls l j acc s hg
  cases hi:has i ls with
  |true=>
   simp only[ZlU,ZeC,hi,cond_true,ZpX,Zc4,Option.bind_some,ZqS]
   cases hlo:ZaG P h E s.hp (ev s.tm) ⟨dst,op,ty,pos,after,none⟩with
   |none=>rfl
   |some v=>
    simp only[Option.bind_some,Option.map_some]
    cases Zef N dst v s.tm with
    |none=>rfl
    |some tm=>simp only[Option.map_some,Option.bind_some];exact ih _ _ _
  |false=>
   simp only[ZlU,ZeC,hi,cond_false,Zcn,Zc4,Option.bind_some,Zor,cond_true]
   cases opE P h E s.hp (ev s.tm) op with
   |none=>rfl
   |some x=>
    simp only[Option.bind_some]
    cases Zef N dst x.1 s.tm with
    |none=>rfl
    |some tm=>
     simp only[Option.map_some,Option.bind_some]
     cases ZcN P h E (ZbG h ⟨dst,op,ty,pos,after,none⟩ acc) x.2 with
     |none=>rfl
     |some _=>simp only[Option.bind_some];exact ih _ _ _
noncomputable def Zvn (P:Program) (h:Hints) (E:Ev) (N:Nat) (ls:List Nat) (ops:Array Oper) (s:St):Option St:=Zmo P h E N ls ops s
theorem ZpE (N:Nat) (j:Nat) (ls:List Nat) (ops:Array Oper) (s:St) (hg:noG ops.toList=true):Zvn P h E N (j::ls) ops s=ZlU P h E N (j::ls) ops.toList 0 [] s:=ZpR N ops _ _ _ _ _ hg
theorem ZqK (c:Cx) (i:Nat) (ops:Array Oper) (d:Bool) (s:St):exS P h E c (.region i ops d) s=ZrI (Zvn P h E c.N (h.light c.fid i) (rgo (h.perm c.fid i) ops) s):=by
 show(Zmo P h E c.N (h.light c.fid i) (rgo (h.perm c.fid i) ops) s).map _=_
 show _=ZrI (Zmo P h E c.N (h.light c.fid i) (rgo (h.perm c.fid i) ops) s)
 cases Zmo P h E c.N (h.light c.fid i) (rgo (h.perm c.fid i) ops) s<;>rfl
noncomputable def ZtY (P:Program) (h:Hints) (E:Ev) (N:Nat) (ls:List Nat) (l:List Oper) (i:Nat) (acc:List (Nat×Oper×List (Nat×PV)×PV)) (s:St):Option Unit→Option St
 |some _=>ZlU P h E N ls l i acc s
 |none=>none
noncomputable def ZsW (P:Program) (h:Hints) (E:Ev) (N:Nat) (ls:List Nat) (dst:Option Tmp) (l:List Oper) (i:Nat) (acc:List (Nat×Oper×List (Nat×PV)×PV)) (tm:List (Nat×PV)):ZjC→Option St
 |some x=>(Zef N dst x.1 tm).bind fun tm'=>ZtY P h E N ls l (i+1) acc ⟨tm',x.2⟩ (ZcN P h E acc x.2)
 |none=>none
noncomputable def ZtH (P:Program) (h:Hints) (E:Ev) (N:Nat) (ls:List Nat) (dst:Option Tmp) (o:Oper) (l:List Oper) (i:Nat) (acc:List (Nat×Oper×List (Nat×PV)×PV)) (tm:List (Nat×PV)) (H:List Mem):Option PV→Option St
 |some v=>(Zef N dst v tm).bind fun tm'=>ZlU P h E N ls l (i+1) ((i,o,tm,v)::acc) ⟨tm',H⟩
 |none=>none
theorem Zn0 (ls:List Nat) (N:Nat) (dst:Option Tmp) (op:Op) (ty:TypeId) (pos:String) (after:Array Edge) (l:List Oper) (i:Nat) (acc:List (Nat×Oper×List (Nat×PV)×PV)) (tm:List (Nat×PV)) (H:List Mem) (hi:has i ls=false):ZlU P h E N ls (⟨dst,op,ty,pos,after,none⟩::l) i acc ⟨tm,H⟩=ZsW P h E N ls dst l i (ZbG h ⟨dst,op,ty,pos,after,none⟩ acc) tm (opE P h E H (ev tm) op):=by
 simp only[ZlU,hi,cond_false]
 cases opE P h E H (ev tm) op with
 |none=>rfl
 |some x=>
  simp only[Option.bind_some,ZsW]
  congr 1
  funext tm'
  cases ZcN P h E (ZbG h ⟨dst,op,ty,pos,after,none⟩ acc) x.2<;>rfl
theorem Zn2 (ls:List Nat) (N:Nat) (dst:Option Tmp) (op:Op) (ty:TypeId) (pos:String) (after:Array Edge) (l:List Oper) (i:Nat) (acc:List (Nat×Oper×List (Nat×PV)×PV)) (tm:List (Nat×PV)) (H:List Mem) (hi:has i ls=true):ZlU P h E N ls (⟨dst,op,ty,pos,after,none⟩::l) i acc ⟨tm,H⟩=ZtH P h E N ls dst ⟨dst,op,ty,pos,after,none⟩ l i acc tm H (ZaG P h E H (ev tm) ⟨dst,op,ty,pos,after,none⟩):=by
 simp only[ZlU,hi,cond_true]
 cases ZaG P h E H (ev tm) ⟨dst,op,ty,pos,after,none⟩with
 |none=>rfl
 |some v=>rfl
noncomputable def Zme (P:Program) (h:Hints) (E:Ev) (acc:List (Nat×Oper×List (Nat×PV)×PV)) (H:List Mem) (v:PV):Option PV→Option Unit
 |some u=>bif Zer u v then ZcN P h E acc H else none
 |none=>none
theorem ZnV (i:Nat) (o:Oper) (tm:List (Nat×PV)) (v:PV) (acc:List (Nat×Oper×List (Nat×PV)×PV)) (H:List Mem):ZcN P h E ((i,o,tm,v)::acc) H=Zme P h E acc H v (ZaG P h E H (ev tm) o):=by
 show(ZaG P h E H (ev tm) o).bind (fun u=>bif Zer u v then ZcN P h E acc H else none)=_
 cases ZaG P h E H (ev tm) o<;>rfl
theorem ZkW (acc:List (Nat×Oper×List (Nat×PV)×PV)) (H:List Mem) (u v:PV) (hs:Zer u v=true):Zme P h E acc H v (some u)=ZcN P h E acc H:=by
 simp only[Zme,hs,cond_true]
theorem ZcC (v:Option PV):((val v).bind fun x=>match x with|(v,[],[])=>some v|_=>none)=v:=by cases v<;>rfl
section
variable (dst : Option Tmp) (ty : TypeId) (pos : String) (after : Array Edge) (g : Option (Nat × Bool))
theorem Zeb (t:TypeId) (a:Operand):ZaG P h E H ρ ⟨dst, .load t a,ty,pos,after,g⟩=Zh1 P H t (ρ a):=ZcC _
theorem ZbV (t:TypeId) (x i:Operand):ZaG P h E H ρ ⟨dst, .indexAddr t x i,ty,pos,after,g⟩=Za4 P H t (ρ x) (ρ i):=ZcC _
theorem ZiJ (x:Operand):ZaG P h E H ρ ⟨dst, .move x,ty,pos,after,g⟩=ρ x:=ZcC _
end
noncomputable def ZcR (r:Nat):Code→Option Code
 | .seq a b=>match ZcR r a with
  |some c=>some c
  |none=>ZcR r b
 | .cond _ a b=>match ZcR r a with
  |some c=>some c
  |none=>ZcR r b
 | .block _ b=>ZcR r b
 | .loop b=>bif Nat.beq (ZdE b) r then some b else ZcR r b
 | .scope b=>ZcR r b
 |_=>none
noncomputable def Zca (f:Func):Code:=match f.body with|some c=>c|none=> .skip
noncomputable def Zbd (f:Func) (r:Nat):Code:=match ZcR r (Zca f)with|some c=>c|none=> .skip
def Flat (v:PV):Prop:=ZdL v=[]∧Zcb v=true∧ ∀l,ren l v=v
theorem Zop:Flat .nils:=⟨rfl,rfl,fun _=>rfl⟩
theorem Zqt (es:List (List PV)):Flat (.lst es):=⟨rfl,rfl,fun _=>rfl⟩
theorem Sl.flat {q:PV} {es:List (List PV)} (hq:Sl q es):Flat q:=by
 rcases hq with⟨rfl,_⟩|rfl
 ·exact Zop
 ·exact Zqt _
end
end Go.Am
/-
 Rules for calls, for what is built, for strings and maps.
-/
namespace Go.Am
section
variable {P : Program} {h : Hints} {E : Ev} {H : List Mem} {ρ : Operand → Option PV}
theorem ZtO {s d:TypeId} (hs:(P.underlying s).isSome=true) (hd:P.underlying d=some .string) (k:IntKind) {n:Int} (h0:0≤n) (h1:n<128):Zck P H s d (.int k n)=some (.str ⟨#[UInt8.ofNat n.toNat]⟩):=by
 unfold Zck
 obtain⟨x,hx⟩:=Option.isSome_iff_exists.1 hs
 rw[hx,hd]
 cases x<;>simp[h0,h1]
theorem Zm2 (b:Bool):exp ZaK H (.bool b)=some (.bool b):=rfl
def Plain (v:PV):Prop:= ∀n H,exp (n+1) H v=some v
theorem ZnQ:Plain .nils:=fun _ _=>rfl
theorem Zqb (es:List (List PV)):Plain (.lst es):=fun _ _=>rfl
theorem Sl.plain {q:PV} {es:List (List PV)} (hq:Sl q es):Plain q:=by
 rcases hq with⟨rfl,_⟩|rfl
 ·exact ZnQ
 ·exact Zqb _
theorem Plain.exp {v:PV} (hv:Plain v):exp ZaK H v=some v:=hv 39 H
theorem Sl.rch {q:PV} {es:List (List PV)} (hq:Sl q es):rch ZaK H q=[]:=by
 rcases hq with⟨rfl,_⟩|rfl<;>rfl
end
end Go.Am
/-
 Rules for own memory numbered anew.
-/
namespace Go.Am
section
variable {P : Program} {h : Hints} {E : Ev} {H : List Mem}
theorem Sl.ids {q:PV} {es:List (List PV)} (hq:Sl q es):ZdL q=[]∧Zcb q=true∧(∀l,ren l q=q)∧Zep q=[]∧Zex q=true∧(∀l,Zns l q=q)∧ZhT q=true:=by
 rcases hq with⟨rfl,_⟩|rfl<;>exact⟨rfl,rfl,fun _=>rfl,rfl,rfl,fun _=>rfl,rfl⟩
theorem Flat.ids {v:PV} (hv:Flat v):ZdL v=[]∧Zcb v=true∧ ∀l,ren l v=v:=hv
end
end Go.Am
/-
 What the evaluator's call gives, as a contract of the model: for walks in the kit's own calculus.
-/
namespace Go.Am
open Go.RowKit
section
variable [Laid] {P : Program} {h : Hints} {E : Ev}
end
end Go.Am
/-
 Hints with functions whose contracts were proved otherwise.
-/
namespace Go.Am
section
variable [Laid] {P : Program} {h : Hints}
noncomputable def withPrims (h:Hints) (p:FuncId→Option (List PV→Option PV)):Hints:={h with prim:=p}
variable {p : FuncId → Option (List PV → Option PV)}
theorem ZgO (ls:List Nat): ∀ (os:List Oper) (i:Nat),Zha (withPrims h p) ls os i=Zha h ls os i
 | [],_=>rfl
 |o::os,i=>by
  simp only[Zha,ZgO ls os]
  rfl
theorem ZjL (ls:List Nat) (ops:Array Oper):Zfd (withPrims h p) ls ops=Zfd h ls ops:=by
 simp only[Zfd,ZgO]
 rfl
theorem Zbo (f:FuncId): ∀c:Code,Za0 (withPrims h p) f c=Za0 h f c
 | .region _ _ _=>by simp only[Za0,ZjL];rfl
 | .seq a b=>by simp only[Za0,Zbo f a,Zbo f b]
 | .cond _ a b=>by simp only[Za0,Zbo f a,Zbo f b]
 | .block _ b=>by simp only[Za0,Zbo f b]
 | .loop b=>by simp only[Za0,Zbo f b]
 | .skip| .label _| .exit _| .ret| .goto _| .refuse _| .rangeFunc _ _ _ _| .scope _=>rfl
theorem Zk1 (f:FuncId):ZhV P (withPrims h p) f=ZhV P h f:=by
 simp only[ZhV,Zbo]
theorem Zc0 (hS:Static P h) (hp: ∀f,(p f).isSome=true→ZrC P f):Static P (withPrims h p):=
 ⟨hS.mixed,fun f hf=>by rw[Zk1];exact hS.fns f hf,hp⟩
end
end Go.Am
