/-
 The evaluator of the model's code on plain values, with its soundness and its walking rules (part 3).
-/
import Derived.Test.YtdnodlkdndfplaaGreatDoorAmB
import Derived.IntWalk
set_option linter.constructorNameAsVariable false
set_option linter.unusedSimpArgs false
set_option linter.unusedVariables false
set_option linter.unusedSectionVars false
/-
 One rule for each operation.
-/
namespace Go.Am
section
variable {P : Program} {h : Hints} {E : Ev} {H : List Mem} {ρ : Operand → Option PV} {N : Nat} {ds : List (Option Tmp)}
noncomputable def Zpr (P:Program) (h:Hints) (E:Ev) (N:Nat) (ds:List (Option Tmp)) (dst:Option Tmp) (l:List Oper) (tm:List (Nat×PV)) (r:Zke):Option St:=
 r.bind fun x=>(Zej N dst x.1 tm).bind fun tm'=>Zdc P h E N ds l ⟨tm',x.2⟩
noncomputable def ZwT (P:Program) (h:Hints) (E:Ev) (N:Nat) (ds:List (Option Tmp)) (dst:Option Tmp) (op:Op) (l:List Oper) (tm:List (Nat×PV)) (H:List Mem) (g:Option Bool):Option St:=
 g.bind fun b=>bif b then Zpr P h E N ds dst l tm (opE P h E H (ev tm) op)else Zpr P h E N ds dst l tm (some (.tup [],H))
theorem Zww (dst:Option Tmp) (op:Op) (ty:TypeId) (pos:String) (after:Array Edge) (l:List Oper) (tm:List (Nat×PV)):
 Zdc P h E N ds (⟨dst,op,ty,pos,after,none⟩::l) ⟨tm,H⟩=Zpr P h E N ds dst l tm (opE P h E H (ev tm) op):=by
 simp only[Zdc,Zpr]
 congr 1
 funext x
 cases Zej N dst x.1 tm<;>rfl
theorem Zp1 (dst:Option Tmp) (op:Op) (ty:TypeId) (pos:String) (after:Array Edge) (j:Nat) (w:Bool) (l:List Oper) (tm:List (Nat×PV)):
 Zdc P h E N ds (⟨dst,op,ty,pos,after,some (j,w)⟩::l) ⟨tm,H⟩=ZwT P h E N ds dst op l tm H (want ds tm j w):=by
 simp only[Zdc,ZwT]
 congr 1
 funext b
 cases b with
 |false=>
  simp only[cond_false,Zpr,Option.bind_some]
  cases Zej N dst (.tup []) tm<;>rfl
 |true=>
  simp only[cond_true,Zpr,Option.bind_assoc]
  congr 1
  funext x
  cases Zej N dst x.1 tm<;>rfl
theorem Zqp (dst:Option Tmp) (op:Op) (l:List Oper) (tm:List (Nat×PV)):ZwT P h E N ds dst op l tm H (some true)=Zpr P h E N ds dst l tm (opE P h E H (ev tm) op):=rfl
theorem Zi1 (dst:Option Tmp) (op:Op) (l:List Oper) (tm:List (Nat×PV)):ZwT P h E N ds dst op l tm H (some false)=Zpr P h E N ds dst l tm (some (.tup [],H)):=rfl
noncomputable def ZtV:Option St→Option (Ex×St)
 |some s=>some (.normal,s)
 |none=>none
noncomputable def Zuf (w:Bool):Option PV→Option Bool
 |some (.bool b)=>some (b==w)
 |some (.tup [])=>some false
 |_=>none
theorem ZuZ (j:Nat) (w:Bool) (tm:List (Nat×PV)):want ds tm j w=Zuf w (((ds[j]?).bind id).bind (get tm)):=by
 simp only[want]
 generalize((ds[j]?).bind id).bind (get tm)=x
 cases x with
 |none=>rfl
 |some v=>cases v<;>first
  |rfl
  |(rename_i vs;cases vs<;>rfl)
theorem Zwv (f:FuncId) (args:Array Operand) (ts:Array TypeId):opE P h E H ρ (.call ⟨.value (.func f),args,ts⟩)=(ZaN ρ args.toList).bind fun vs=>ZbZ h E f vs H:=by
 show(if h.opn f then ZkU h E H ρ f ⟨.value (.func f),args,ts⟩else Zij H (ZdQ h E H H.length ρ f ⟨.value (.func f),args,ts⟩))=_
 cases ho:h.opn f with
 |true=>rfl
 |false=>
  simp only[Bool.false_eq_true,if_false,ZdQ,ho,ZbZ]
  cases ZaN ρ args.toList with
  |none=>rfl
  |some vs=>rfl
theorem Zan {x:Int} (h1: -9223372036854775808≤x) (h2:x≤9223372036854775807):IntKind.i64.wrap x=x:=by
 rw[IntKind.wrap_i64];omega
theorem ZmZ {t:TypeId} {n:Nat} (ht:Zp3 P t=some true) (hn:ZaO P t=some n) (cs:List PV) (off:Nat) (hle:off+n≤cs.length):Zcx P t cs off=some (.agg ((cs.drop off).take n)):=by
 simp only[Zcx,ht,hn,Option.bind_some]
 rw[if_pos hle]
noncomputable def ZlV (P:Program) (h:Hints) (E:Ev) (N:Nat) (ls:List Nat):List Oper→Nat→List (Nat×Oper×List (Nat×PV)×PV)→St→Option St
 | [],_,_,s=>some s
 |⟨dst,op,ty,pos,after,none⟩::l,i,acc,s=>bif has i ls
  then(ZaH P h E s.hp (ev s.tm) ⟨dst,op,ty,pos,after,none⟩).bind fun v=>(Zej N dst v s.tm).bind fun tm=>ZlV P h E N ls l (i+1) ((i,⟨dst,op,ty,pos,after,none⟩,s.tm,v)::acc) ⟨tm,s.hp⟩
  else(opE P h E s.hp (ev s.tm) op).bind fun x=>(Zej N dst x.1 s.tm).bind fun tm=>(Zdj P h E (ZbF h ⟨dst,op,ty,pos,after,none⟩ acc) x.2).bind fun _=>ZlV P h E N ls l (i+1) (ZbF h ⟨dst,op,ty,pos,after,none⟩ acc) ⟨tm,x.2⟩
 |_::_,_,_,_=>none
noncomputable def noG:List Oper→Bool
 | []=>true
 |⟨_,_,_,_,_,none⟩::l=>noG l
 |_::_=>false
theorem Zqa (N:Nat) (ops:Array Oper) (ls:List Nat): ∀ (l:List Oper) (i:Nat) (acc:List (Nat×Oper×List (Nat×PV)×PV)) (s:St),noG l=true→ZaT P h E N ops ls l i acc s=ZlV P h E N ls l i acc s
 | [],_,_,s,_=>rfl
 |⟨dst,op,ty,pos,after,some g⟩::l,i,acc,s,hg=>by cases hg
 |⟨dst,op,ty,pos,after,none⟩::l,i,acc,s,hg=>by
  show(ZeD P h E N ops ls i ⟨dst,op,ty,pos,after,none⟩ s).bind (fun s'=>bif has i ls then(ZsE P h E ops i ⟨dst,op,ty,pos,after,none⟩ s acc).bind fun acc'=>ZaT P h E N ops ls l (i+1) acc' s' else(Zdj P h E (ZbF h ⟨dst,op,ty,pos,after,none⟩ acc) s'.hp).bind fun _=>ZaT P h E N ops ls l (i+1) (ZbF h ⟨dst,op,ty,pos,after,none⟩ acc) s')=_
  have ih:=fun j acc s=>Zqa N ops ls l j acc s hg
  cases hi:has i ls with
  |true=>
   simp only[ZlV,ZeD,hi,cond_true,ZpQ,ZcS,Option.bind_some,ZsE]
   cases hlo:ZaH P h E s.hp (ev s.tm) ⟨dst,op,ty,pos,after,none⟩with
   |none=>rfl
   |some v=>
    simp only[Option.bind_some,Option.map_some]
    cases Zej N dst v s.tm with
    |none=>rfl
    |some tm=>simp only[Option.map_some,Option.bind_some];exact ih _ _ _
  |false=>
   simp only[ZlV,ZeD,hi,cond_false,Zcm,ZcS,Option.bind_some,ZqI,cond_true]
   cases opE P h E s.hp (ev s.tm) op with
   |none=>rfl
   |some x=>
    simp only[Option.bind_some]
    cases Zej N dst x.1 s.tm with
    |none=>rfl
    |some tm=>
     simp only[Option.map_some,Option.bind_some]
     cases Zdj P h E (ZbF h ⟨dst,op,ty,pos,after,none⟩ acc) x.2 with
     |none=>rfl
     |some _=>simp only[Option.bind_some];exact ih _ _ _
noncomputable def ZxJ (P:Program) (h:Hints) (E:Ev) (N:Nat) (ls:List Nat) (ops:Array Oper) (s:St):Option St:=Znr P h E N ls ops s
theorem ZpF (N:Nat) (j:Nat) (ls:List Nat) (ops:Array Oper) (s:St) (hg:noG ops.toList=true):ZxJ P h E N (j::ls) ops s=ZlV P h E N (j::ls) ops.toList 0 [] s:=Zqa N ops _ _ _ _ _ hg
theorem Zsw (c:Cx) (i:Nat) (ops:Array Oper) (d:Bool) (s:St):exS P h E c (.region i ops d) s=ZtV (ZxJ P h E c.N (h.light c.fid i) ops s):=by
 show(Znr P h E c.N (h.light c.fid i) ops s).map _=_
 show _=ZtV (Znr P h E c.N (h.light c.fid i) ops s)
 cases Znr P h E c.N (h.light c.fid i) ops s<;>rfl
noncomputable def ZvO (P:Program) (h:Hints) (E:Ev) (N:Nat) (ls:List Nat) (l:List Oper) (i:Nat) (acc:List (Nat×Oper×List (Nat×PV)×PV)) (s:St):Option Unit→Option St
 |some _=>ZlV P h E N ls l i acc s
 |none=>none
noncomputable def ZuG (P:Program) (h:Hints) (E:Ev) (N:Nat) (ls:List Nat) (dst:Option Tmp) (l:List Oper) (i:Nat) (acc:List (Nat×Oper×List (Nat×PV)×PV)) (tm:List (Nat×PV)):Zke→Option St
 |some x=>(Zej N dst x.1 tm).bind fun tm'=>ZvO P h E N ls l (i+1) acc ⟨tm',x.2⟩ (Zdj P h E acc x.2)
 |none=>none
noncomputable def ZvL (P:Program) (h:Hints) (E:Ev) (N:Nat) (ls:List Nat) (dst:Option Tmp) (o:Oper) (l:List Oper) (i:Nat) (acc:List (Nat×Oper×List (Nat×PV)×PV)) (tm:List (Nat×PV)) (H:List Mem):Option PV→Option St
 |some v=>(Zej N dst v tm).bind fun tm'=>ZlV P h E N ls l (i+1) ((i,o,tm,v)::acc) ⟨tm',H⟩
 |none=>none
theorem Zo1 (ls:List Nat) (N:Nat) (dst:Option Tmp) (op:Op) (ty:TypeId) (pos:String) (after:Array Edge) (l:List Oper) (i:Nat) (acc:List (Nat×Oper×List (Nat×PV)×PV)) (tm:List (Nat×PV)) (H:List Mem) (hi:has i ls=false):ZlV P h E N ls (⟨dst,op,ty,pos,after,none⟩::l) i acc ⟨tm,H⟩=ZuG P h E N ls dst l i (ZbF h ⟨dst,op,ty,pos,after,none⟩ acc) tm (opE P h E H (ev tm) op):=by
 simp only[ZlV,hi,cond_false]
 cases opE P h E H (ev tm) op with
 |none=>rfl
 |some x=>
  simp only[Option.bind_some,ZuG]
  congr 1
  funext tm'
  cases Zdj P h E (ZbF h ⟨dst,op,ty,pos,after,none⟩ acc) x.2<;>rfl
theorem Zpa (ls:List Nat) (N:Nat) (dst:Option Tmp) (op:Op) (ty:TypeId) (pos:String) (after:Array Edge) (l:List Oper) (i:Nat) (acc:List (Nat×Oper×List (Nat×PV)×PV)) (tm:List (Nat×PV)) (H:List Mem) (hi:has i ls=true):ZlV P h E N ls (⟨dst,op,ty,pos,after,none⟩::l) i acc ⟨tm,H⟩=ZvL P h E N ls dst ⟨dst,op,ty,pos,after,none⟩ l i acc tm H (ZaH P h E H (ev tm) ⟨dst,op,ty,pos,after,none⟩):=by
 simp only[ZlV,hi,cond_true]
 cases ZaH P h E H (ev tm) ⟨dst,op,ty,pos,after,none⟩with
 |none=>rfl
 |some v=>rfl
noncomputable def ZnG (P:Program) (h:Hints) (E:Ev) (acc:List (Nat×Oper×List (Nat×PV)×PV)) (H:List Mem) (v:PV):Option PV→Option Unit
 |some u=>bif Zew u v then Zdj P h E acc H else none
 |none=>none
theorem Zo8 (i:Nat) (o:Oper) (tm:List (Nat×PV)) (v:PV) (acc:List (Nat×Oper×List (Nat×PV)×PV)) (H:List Mem):Zdj P h E ((i,o,tm,v)::acc) H=ZnG P h E acc H v (ZaH P h E H (ev tm) o):=by
 show(ZaH P h E H (ev tm) o).bind (fun u=>bif Zew u v then Zdj P h E acc H else none)=_
 cases ZaH P h E H (ev tm) o<;>rfl
theorem ZmD (acc:List (Nat×Oper×List (Nat×PV)×PV)) (H:List Mem) (u v:PV) (hs:Zew u v=true):ZnG P h E acc H v (some u)=Zdj P h E acc H:=by
 simp only[ZnG,hs,cond_true]
theorem Zhj (v:Option PV):((val v).bind fun x=>match x with|(v,[],[])=>some v|_=>none)=v:=by cases v<;>rfl
section
variable (dst : Option Tmp) (ty : TypeId) (pos : String) (after : Array Edge) (g : Option (Nat × Bool))
theorem Zek (t:TypeId) (a:Operand):ZaH P h E H ρ ⟨dst, .load t a,ty,pos,after,g⟩=Zii P H t (ρ a):=Zhj _
theorem ZbM (t:TypeId) (x i:Operand):ZaH P h E H ρ ⟨dst, .indexAddr t x i,ty,pos,after,g⟩=Za1 P H t (ρ x) (ρ i):=Zhj _
theorem Zim (x:Operand):ZaH P h E H ρ ⟨dst, .move x,ty,pos,after,g⟩=ρ x:=Zhj _
end
noncomputable def ZcL (r:Nat):Code→Option Code
 | .seq a b=>match ZcL r a with
  |some c=>some c
  |none=>ZcL r b
 | .cond _ a b=>match ZcL r a with
  |some c=>some c
  |none=>ZcL r b
 | .block _ b=>ZcL r b
 | .loop b=>bif Nat.beq (Zdn b) r then some b else ZcL r b
 | .scope b=>ZcL r b
 |_=>none
noncomputable def ZbP (f:Func):Code:=match f.body with|some c=>c|none=> .skip
noncomputable def Zc5 (f:Func) (r:Nat):Code:=match ZcL r (ZbP f)with|some c=>c|none=> .skip
def Flat (v:PV):Prop:=Zcb v=[]∧Zbh v=true∧ ∀l,ren l v=v
theorem Zqg:Flat .nils:=⟨rfl,rfl,fun _=>rfl⟩
theorem ZsI (es:List (List PV)):Flat (.lst es):=⟨rfl,rfl,fun _=>rfl⟩
theorem Sl.flat {q:PV} {es:List (List PV)} (hq:Sl q es):Flat q:=by
 rcases hq with⟨rfl,_⟩|rfl
 ·exact Zqg
 ·exact ZsI _
end
end Go.Am
/-
 Rules for calls, for what is built, for strings and maps.
-/
namespace Go.Am
section
variable {P : Program} {h : Hints} {E : Ev} {H : List Mem} {ρ : Operand → Option PV}
theorem ZwD {s d:TypeId} (hs:(P.underlying s).isSome=true) (hd:P.underlying d=some .string) (k:IntKind) {n:Int} (h0:0≤n) (h1:n<128):Zck P H s d (.int k n)=some (.str ⟨#[UInt8.ofNat n.toNat]⟩):=by
 unfold Zck
 obtain⟨x,hx⟩:=Option.isSome_iff_exists.1 hs
 rw[hx,hd]
 cases x<;>simp[h0,h1]
theorem Zoe (b:Bool):exp ZaC H (.bool b)=some (.bool b):=rfl
def Plain (v:PV):Prop:= ∀n H,exp (n+1) H v=some v
theorem Zpm:Plain .nils:=fun _ _=>rfl
theorem ZrS (es:List (List PV)):Plain (.lst es):=fun _ _=>rfl
theorem Sl.plain {q:PV} {es:List (List PV)} (hq:Sl q es):Plain q:=by
 rcases hq with⟨rfl,_⟩|rfl
 ·exact Zpm
 ·exact ZrS _
theorem Plain.exp {v:PV} (hv:Plain v):exp ZaC H v=some v:=hv 39 H
theorem Sl.rch {q:PV} {es:List (List PV)} (hq:Sl q es):rch ZaC H q=[]:=by
 rcases hq with⟨rfl,_⟩|rfl<;>rfl
end
end Go.Am
/-
 Rules for own memory numbered anew.
-/
namespace Go.Am
section
variable {P : Program} {h : Hints} {E : Ev} {H : List Mem}
noncomputable def Znu (tm:List (Nat×PV)) (H:List Mem) (ids:List Nat):Option St:=
 if tm.all (fun x=>Zbh x.2)=true then
  (ZaN (fun i=>(H[i]?).bind fun m=>if(okM m&&(ZlE m).all ids.contains)=true then some (Zmd ids m)else none) ids).map fun H'=>⟨tm.map fun x=>(x.1,ren ids x.2),H'⟩
 else none
noncomputable def Zxr (tm:List (Nat×PV)):List Nat:=(tm.flatMap fun x=>Zcb x.2).foldl ZbR []
noncomputable def ZdK (H:List Mem) (ids:List Nat):List Nat:=(ids.flatMap (ZlT H)).foldl ZbR ids
theorem Zml (tm:List (Nat×PV)):Zds tm H=Znu tm H (ZdK H (ZdK H (ZdK H (Zxr tm)))):=rfl
noncomputable def Zxx:Option Mem→List Nat
 |some m=>ZlE m
 |none=> []
theorem ZsS (i:Nat):ZlT H i=Zxx H[i]? :=by
 unfold ZlT Zxx
 cases H[i]? <;>rfl
theorem ZrR (m:Mem):Zxx (some m)=ZlE m:=rfl
theorem Zfv {m:Mem} (hm:ZeE m=true):ZlE m=[]:=by simp[ZlE,hm]
theorem ZjA {m:Mem} (hm:ZeE m=true):okM m=true:=by simp[okM,hm]
theorem ZhL {m:Mem} (hm:ZeE m=true) (l:List Nat):Zmd l m=m:=by simp[Zmd,hm]
theorem Zrm (es:List (List PV)) (z:Nat) (m:Bool):ZeE (.row es z m)=es.all fun c=>c.all ZfF:=rfl
theorem Zqb {es:List (List PV)} (he: ∀c∈es,∀v∈c,ZfF v=true) (z:Nat) (m:Bool):ZeE (.row es z m)=true:=by
 rw[Zrm,List.all_eq_true]
 exact fun c hc=>List.all_eq_true.2 (he c hc)
theorem Sl.ids {q:PV} {es:List (List PV)} (hq:Sl q es):Zcb q=[]∧Zbh q=true∧(∀l,ren l q=q)∧ZbQ q=[]∧ZcM q=true∧(∀l,ZiW l q=q)∧ZfF q=true:=by
 rcases hq with⟨rfl,_⟩|rfl<;>exact⟨rfl,rfl,fun _=>rfl,rfl,rfl,fun _=>rfl,rfl⟩
theorem Flat.ids {v:PV} (hv:Flat v):Zcb v=[]∧Zbh v=true∧ ∀l,ren l v=v:=hv
end
end Go.Am
/-
 What the evaluator's call gives, as a contract of the model: for walks in the kit's own calculus.
-/
namespace Go.Am
open Go.RowKit
section
variable [Laid] {P : Program} {h : Hints} {E : Ev}
end
end Go.Am
/-
 Hints with functions whose contracts were proved otherwise.
-/
namespace Go.Am
section
variable [Laid] {P : Program} {h : Hints}
noncomputable def withPrims (h:Hints) (p:FuncId→Option (List PV→Option PV)):Hints:={h with prim:=p}
variable {p : FuncId → Option (List PV → Option PV)}
theorem Zgt (ls:List Nat): ∀ (os:List Oper) (i:Nat),ZdH (withPrims h p) ls os i=ZdH h ls os i
 | [],_=>rfl
 |o::os,i=>by
  simp only[ZdH,Zgt ls os]
  rfl
theorem Zk3 (ls:List Nat) (ops:Array Oper):ZdP (withPrims h p) ls ops=ZdP h ls ops:=by
 simp only[ZdP,Zgt]
theorem Zbp (f:FuncId): ∀c:Code,Za2 (withPrims h p) f c=Za2 h f c
 | .region _ _ _=>by simp only[Za2,Zk3];rfl
 | .seq a b=>by simp only[Za2,Zbp f a,Zbp f b]
 | .cond _ a b=>by simp only[Za2,Zbp f a,Zbp f b]
 | .block _ b=>by simp only[Za2,Zbp f b]
 | .loop b=>by simp only[Za2,Zbp f b]
 | .skip| .label _| .exit _| .ret| .goto _| .refuse _| .rangeFunc _ _ _ _| .scope _=>rfl
theorem Zl9 (f:FuncId):Zjd P (withPrims h p) f=Zjd P h f:=by
 simp only[Zjd,Zbp]
theorem Zgg (hS:Static P h) (hp: ∀f,(p f).isSome=true→Zua P f):Static P (withPrims h p):=
 ⟨hS.mixed,fun f hf=>by rw[Zl9];exact hS.fns f hf,hp⟩
end
end Go.Am
