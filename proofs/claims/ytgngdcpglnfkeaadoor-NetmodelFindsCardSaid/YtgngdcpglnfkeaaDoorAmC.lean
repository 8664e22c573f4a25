/-
 The evaluator of the model's code on plain values, with its soundness and its walking rules (part 3).
-/
import Derived.Test.YtgngdcpglnfkeaaDoorAmB
import Derived.IntWalk
set_option linter.constructorNameAsVariable false
set_option linter.unusedSimpArgs false
set_option linter.unusedVariables false
set_option linter.unusedSectionVars false
/-
 One rule for each operation.
-/
namespace Go.Am
section
variable {P : Program} {h : Hints} {E : Ev} {H : List Mem} {ρ : Operand → Option PV} {N : Nat} {ds : List (Option Tmp)}
noncomputable def ZoN (P:Program) (h:Hints) (E:Ev) (N:Nat) (ds:List (Option Tmp)) (dst:Option Tmp) (l:List Oper) (tm:List (Nat×PV)) (r:Zkl):Option St:=
 r.bind fun x=>(ZeL N dst x.1 tm).bind fun tm'=>ZdC P h E N ds l ⟨tm',x.2⟩
noncomputable def ZvC (P:Program) (h:Hints) (E:Ev) (N:Nat) (ds:List (Option Tmp)) (dst:Option Tmp) (op:Op) (l:List Oper) (tm:List (Nat×PV)) (H:List Mem) (g:Option Bool):Option St:=
 g.bind fun b=>bif b then ZoN P h E N ds dst l tm (opE P h E H (ev tm) op)else ZoN P h E N ds dst l tm (some (.tup [],H))
theorem Zu3 (dst:Option Tmp) (op:Op) (ty:TypeId) (pos:String) (after:Array Edge) (l:List Oper) (tm:List (Nat×PV)):
 ZdC P h E N ds (⟨dst,op,ty,pos,after,none⟩::l) ⟨tm,H⟩=ZoN P h E N ds dst l tm (opE P h E H (ev tm) op):=by
 simp only[ZdC,ZoN]
 congr 1
 funext x
 cases ZeL N dst x.1 tm<;>rfl
theorem Zqu (dst:Option Tmp) (op:Op) (ty:TypeId) (pos:String) (after:Array Edge) (j:Nat) (w:Bool) (l:List Oper) (tm:List (Nat×PV)):
 ZdC P h E N ds (⟨dst,op,ty,pos,after,some (j,w)⟩::l) ⟨tm,H⟩=ZvC P h E N ds dst op l tm H (want ds tm j w):=by
 simp only[ZdC,ZvC]
 congr 1
 funext b
 cases b with
 |false=>
  simp only[cond_false,ZoN,Option.bind_some]
  cases ZeL N dst (.tup []) tm<;>rfl
 |true=>
  simp only[cond_true,ZoN,Option.bind_assoc]
  congr 1
  funext x
  cases ZeL N dst x.1 tm<;>rfl
theorem ZpW (dst:Option Tmp) (op:Op) (l:List Oper) (tm:List (Nat×PV)):ZvC P h E N ds dst op l tm H (some true)=ZoN P h E N ds dst l tm (opE P h E H (ev tm) op):=rfl
theorem Zi7 (dst:Option Tmp) (op:Op) (l:List Oper) (tm:List (Nat×PV)):ZvC P h E N ds dst op l tm H (some false)=ZoN P h E N ds dst l tm (some (.tup [],H)):=rfl
noncomputable def ZsE:Option St→Option (Ex×St)
 |some s=>some (.normal,s)
 |none=>none
noncomputable def ZtW (w:Bool):Option PV→Option Bool
 |some (.bool b)=>some (b==w)
 |some (.tup [])=>some false
 |_=>none
theorem ZtB (j:Nat) (w:Bool) (tm:List (Nat×PV)):want ds tm j w=ZtW w (((ds[j]?).bind id).bind (get tm)):=by
 simp only[want]
 generalize((ds[j]?).bind id).bind (get tm)=x
 cases x with
 |none=>rfl
 |some v=>cases v<;>first
  |rfl
  |(rename_i vs;cases vs<;>rfl)
theorem ZuQ (f:FuncId) (args:Array Operand) (ts:Array TypeId):opE P h E H ρ (.call ⟨.value (.func f),args,ts⟩)=(ZaU ρ args.toList).bind fun vs=>Zcg h E f vs H:=by
 show(if h.opn f then Zlf h E H ρ f ⟨.value (.func f),args,ts⟩else Zhy H (Zeo h E H H.length ρ f ⟨.value (.func f),args,ts⟩))=_
 cases ho:h.opn f with
 |true=>rfl
 |false=>
  simp only[Bool.false_eq_true,if_false,Zeo,ho,Zcg]
  cases ZaU ρ args.toList with
  |none=>rfl
  |some vs=>rfl
theorem Zg0 {x:Int} (h1: -9223372036854775808≤x) (h2:x≤9223372036854775807):IntKind.i64.wrap x=x:=by
 rw[IntKind.wrap_i64];omega
theorem ZnN {t:TypeId} {n:Nat} (ht:ZoM P t=some true) (hn:ZaX P t=some n) (cs:List PV) (off:Nat) (hle:off+n≤cs.length):ZcX P t cs off=some (.agg ((cs.drop off).take n)):=by
 simp only[ZcX,ht,hn,Option.bind_some]
 rw[if_pos hle]
noncomputable def ZmK (P:Program) (h:Hints) (E:Ev) (N:Nat) (ls:List Nat):List Oper→Nat→List (Nat×Oper×List (Nat×PV)×PV)→St→Option St
 | [],_,_,s=>some s
 |⟨dst,op,ty,pos,after,none⟩::l,i,acc,s=>bif has i ls
  then(ZaN P h E s.hp (ev s.tm) ⟨dst,op,ty,pos,after,none⟩).bind fun v=>(ZeL N dst v s.tm).bind fun tm=>ZmK P h E N ls l (i+1) ((i,⟨dst,op,ty,pos,after,none⟩,s.tm,v)::acc) ⟨tm,s.hp⟩
  else(opE P h E s.hp (ev s.tm) op).bind fun x=>(ZeL N dst x.1 s.tm).bind fun tm=>(ZcZ P h E (ZbW h ⟨dst,op,ty,pos,after,none⟩ acc) x.2).bind fun _=>ZmK P h E N ls l (i+1) (ZbW h ⟨dst,op,ty,pos,after,none⟩ acc) ⟨tm,x.2⟩
 |_::_,_,_,_=>none
noncomputable def noG:List Oper→Bool
 | []=>true
 |⟨_,_,_,_,_,none⟩::l=>noG l
 |_::_=>false
theorem Zpt (N:Nat) (ops:Array Oper) (ls:List Nat): ∀ (l:List Oper) (i:Nat) (acc:List (Nat×Oper×List (Nat×PV)×PV)) (s:St),noG l=true→Za8 P h E N ops ls l i acc s=ZmK P h E N ls l i acc s
 | [],_,_,s,_=>rfl
 |⟨dst,op,ty,pos,after,some g⟩::l,i,acc,s,hg=>by cases hg
 |⟨dst,op,ty,pos,after,none⟩::l,i,acc,s,hg=>by
  show(Ze4 P h E N ops ls i ⟨dst,op,ty,pos,after,none⟩ s).bind (fun s'=>bif has i ls then(ZrR P h E ops i ⟨dst,op,ty,pos,after,none⟩ s acc).bind fun acc'=>Za8 P h E N ops ls l (i+1) acc' s' else(ZcZ P h E (ZbW h ⟨dst,op,ty,pos,after,none⟩ acc) s'.hp).bind fun _=>Za8 P h E N ops ls l (i+1) (ZbW h ⟨dst,op,ty,pos,after,none⟩ acc) s')=_
  have ih:=fun j acc s=>Zpt N ops ls l j acc s hg
  cases hi:has i ls with
  |true=>
   simp only[ZmK,Ze4,hi,cond_true,Zqq,Zdp,Option.bind_some,ZrR]
   cases hlo:ZaN P h E s.hp (ev s.tm) ⟨dst,op,ty,pos,after,none⟩with
   |none=>rfl
   |some v=>
    simp only[Option.bind_some,Option.map_some]
    cases ZeL N dst v s.tm with
    |none=>rfl
    |some tm=>simp only[Option.map_some,Option.bind_some];exact ih _ _ _
  |false=>
   simp only[ZmK,Ze4,hi,cond_false,Zcy,Zdp,Option.bind_some,Zqw,cond_true]
   cases opE P h E s.hp (ev s.tm) op with
   |none=>rfl
   |some x=>
    simp only[Option.bind_some]
    cases ZeL N dst x.1 s.tm with
    |none=>rfl
    |some tm=>
     simp only[Option.map_some,Option.bind_some]
     cases ZcZ P h E (ZbW h ⟨dst,op,ty,pos,after,none⟩ acc) x.2 with
     |none=>rfl
     |some _=>simp only[Option.bind_some];exact ih _ _ _
noncomputable def Zwt (P:Program) (h:Hints) (E:Ev) (N:Nat) (ls:List Nat) (ops:Array Oper) (s:St):Option St:=ZnU P h E N ls ops s
theorem ZpB (N:Nat) (j:Nat) (ls:List Nat) (ops:Array Oper) (s:St) (hg:noG ops.toList=true):Zwt P h E N (j::ls) ops s=ZmK P h E N (j::ls) ops.toList 0 [] s:=Zpt N ops _ _ _ _ _ hg
theorem Zrp (c:Cx) (i:Nat) (ops:Array Oper) (d:Bool) (s:St):exS P h E c (.region i ops d) s=ZsE (Zwt P h E c.N (h.light c.fid i) (rgo (h.perm c.fid i) ops) s):=by
 show(ZnU P h E c.N (h.light c.fid i) (rgo (h.perm c.fid i) ops) s).map _=_
 show _=ZsE (ZnU P h E c.N (h.light c.fid i) (rgo (h.perm c.fid i) ops) s)
 cases ZnU P h E c.N (h.light c.fid i) (rgo (h.perm c.fid i) ops) s<;>rfl
noncomputable def Zvf (P:Program) (h:Hints) (E:Ev) (N:Nat) (ls:List Nat) (l:List Oper) (i:Nat) (acc:List (Nat×Oper×List (Nat×PV)×PV)) (s:St):Option Unit→Option St
 |some _=>ZmK P h E N ls l i acc s
 |none=>none
noncomputable def Ztc (P:Program) (h:Hints) (E:Ev) (N:Nat) (ls:List Nat) (dst:Option Tmp) (l:List Oper) (i:Nat) (acc:List (Nat×Oper×List (Nat×PV)×PV)) (tm:List (Nat×PV)):Zkl→Option St
 |some x=>(ZeL N dst x.1 tm).bind fun tm'=>Zvf P h E N ls l (i+1) acc ⟨tm',x.2⟩ (ZcZ P h E acc x.2)
 |none=>none
noncomputable def Zvg (P:Program) (h:Hints) (E:Ev) (N:Nat) (ls:List Nat) (dst:Option Tmp) (o:Oper) (l:List Oper) (i:Nat) (acc:List (Nat×Oper×List (Nat×PV)×PV)) (tm:List (Nat×PV)) (H:List Mem):Option PV→Option St
 |some v=>(ZeL N dst v tm).bind fun tm'=>ZmK P h E N ls l (i+1) ((i,o,tm,v)::acc) ⟨tm',H⟩
 |none=>none
theorem Zok (ls:List Nat) (N:Nat) (dst:Option Tmp) (op:Op) (ty:TypeId) (pos:String) (after:Array Edge) (l:List Oper) (i:Nat) (acc:List (Nat×Oper×List (Nat×PV)×PV)) (tm:List (Nat×PV)) (H:List Mem) (hi:has i ls=false):ZmK P h E N ls (⟨dst,op,ty,pos,after,none⟩::l) i acc ⟨tm,H⟩=Ztc P h E N ls dst l i (ZbW h ⟨dst,op,ty,pos,after,none⟩ acc) tm (opE P h E H (ev tm) op):=by
 simp only[ZmK,hi,cond_false]
 cases opE P h E H (ev tm) op with
 |none=>rfl
 |some x=>
  simp only[Option.bind_some,Ztc]
  congr 1
  funext tm'
  cases ZcZ P h E (ZbW h ⟨dst,op,ty,pos,after,none⟩ acc) x.2<;>rfl
theorem Zox (ls:List Nat) (N:Nat) (dst:Option Tmp) (op:Op) (ty:TypeId) (pos:String) (after:Array Edge) (l:List Oper) (i:Nat) (acc:List (Nat×Oper×List (Nat×PV)×PV)) (tm:List (Nat×PV)) (H:List Mem) (hi:has i ls=true):ZmK P h E N ls (⟨dst,op,ty,pos,after,none⟩::l) i acc ⟨tm,H⟩=Zvg P h E N ls dst ⟨dst,op,ty,pos,after,none⟩ l i acc tm H (ZaN P h E H (ev tm) ⟨dst,op,ty,pos,after,none⟩):=by
 simp only[ZmK,hi,cond_true]
 cases ZaN P h E H (ev tm) ⟨dst,op,ty,pos,after,none⟩with
 |none=>rfl
 |some v=>rfl
noncomputable def ZnA (P:Program) (h:Hints) (E:Ev) (acc:List (Nat×Oper×List (Nat×PV)×PV)) (H:List Mem) (v:PV):Option PV→Option Unit
 |some u=>bif ZeT u v then ZcZ P h E acc H else none
 |none=>none
theorem Zov (i:Nat) (o:Oper) (tm:List (Nat×PV)) (v:PV) (acc:List (Nat×Oper×List (Nat×PV)×PV)) (H:List Mem):ZcZ P h E ((i,o,tm,v)::acc) H=ZnA P h E acc H v (ZaN P h E H (ev tm) o):=by
 show(ZaN P h E H (ev tm) o).bind (fun u=>bif ZeT u v then ZcZ P h E acc H else none)=_
 cases ZaN P h E H (ev tm) o<;>rfl
theorem ZlL (acc:List (Nat×Oper×List (Nat×PV)×PV)) (H:List Mem) (u v:PV) (hs:ZeT u v=true):ZnA P h E acc H v (some u)=ZcZ P h E acc H:=by
 simp only[ZnA,hs,cond_true]
theorem ZcU (v:Option PV):((val v).bind fun x=>match x with|(v,[],[])=>some v|_=>none)=v:=by cases v<;>rfl
section
variable (dst : Option Tmp) (ty : TypeId) (pos : String) (after : Array Edge) (g : Option (Nat × Bool))
theorem ZeC (t:TypeId) (a:Operand):ZaN P h E H ρ ⟨dst, .load t a,ty,pos,after,g⟩=Ziz P H t (ρ a):=ZcU _
theorem Zb3 (t:TypeId) (x i:Operand):ZaN P h E H ρ ⟨dst, .indexAddr t x i,ty,pos,after,g⟩=Zbc P H t (ρ x) (ρ i):=ZcU _
theorem ZiO (x:Operand):ZaN P h E H ρ ⟨dst, .move x,ty,pos,after,g⟩=ρ x:=ZcU _
end
noncomputable def Zc7 (r:Nat):Code→Option Code
 | .seq a b=>match Zc7 r a with
  |some c=>some c
  |none=>Zc7 r b
 | .cond _ a b=>match Zc7 r a with
  |some c=>some c
  |none=>Zc7 r b
 | .block _ b=>Zc7 r b
 | .loop b=>bif Nat.beq (Zd0 b) r then some b else Zc7 r b
 | .scope b=>Zc7 r b
 |_=>none
noncomputable def Za0 (f:Func):Code:=match f.body with|some c=>c|none=> .skip
noncomputable def Zbt (f:Func) (r:Nat):Code:=match Zc7 r (Za0 f)with|some c=>c|none=> .skip
def Flat (v:PV):Prop:=Zcp v=[]∧Zbv v=true∧ ∀l,ren l v=v
theorem ZpF:Flat .nils:=⟨rfl,rfl,fun _=>rfl⟩
theorem Zr2 (es:List (List PV)):Flat (.lst es):=⟨rfl,rfl,fun _=>rfl⟩
theorem Sl.flat {q:PV} {es:List (List PV)} (hq:Sl q es):Flat q:=by
 rcases hq with⟨rfl,_⟩|rfl
 ·exact ZpF
 ·exact Zr2 _
end
end Go.Am
/-
 Rules for calls, for what is built, for strings and maps.
-/
namespace Go.Am
section
variable {P : Program} {h : Hints} {E : Ev} {H : List Mem} {ρ : Operand → Option PV}
theorem Zvk {s d:TypeId} (hs:(P.underlying s).isSome=true) (hd:P.underlying d=some .string) (k:IntKind) {n:Int} (h0:0≤n) (h1:n<128):ZcB P H s d (.int k n)=some (.str ⟨#[UInt8.ofNat n.toNat]⟩):=by
 unfold ZcB
 obtain⟨x,hx⟩:=Option.isSome_iff_exists.1 hs
 rw[hx,hd]
 cases x<;>simp[h0,h1]
theorem ZmS (b:Bool):exp ZaM H (.bool b)=some (.bool b):=rfl
def Plain (v:PV):Prop:= ∀n H,exp (n+1) H v=some v
theorem Zoz:Plain .nils:=fun _ _=>rfl
theorem ZoW (es:List (List PV)):Plain (.lst es):=fun _ _=>rfl
theorem Sl.plain {q:PV} {es:List (List PV)} (hq:Sl q es):Plain q:=by
 rcases hq with⟨rfl,_⟩|rfl
 ·exact Zoz
 ·exact ZoW _
theorem Plain.exp {v:PV} (hv:Plain v):exp ZaM H v=some v:=hv 39 H
theorem Sl.rch {q:PV} {es:List (List PV)} (hq:Sl q es):rch ZaM H q=[]:=by
 rcases hq with⟨rfl,_⟩|rfl<;>rfl
end
end Go.Am
/-
 Rules for own memory numbered anew.
-/
namespace Go.Am
section
variable {P : Program} {h : Hints} {E : Ev} {H : List Mem}
noncomputable def ZnT (tm:List (Nat×PV)) (H:List Mem) (ids:List Nat):Option St:=
 if tm.all (fun x=>Zbv x.2)=true then
  (ZaU (fun i=>(H[i]?).bind fun m=>if(okM m&&(ZlI m).all ids.contains)=true then some (Zl4 ids m)else none) ids).map fun H'=>⟨tm.map fun x=>(x.1,ren ids x.2),H'⟩
 else none
noncomputable def Zv4 (tm:List (Nat×PV)):List Nat:=(tm.flatMap fun x=>Zcp x.2).foldl Zb5 []
noncomputable def Zeg (H:List Mem) (ids:List Nat):List Nat:=(ids.flatMap (ZlX H)).foldl Zb5 ids
theorem ZlR (tm:List (Nat×PV)):ZdX tm H=ZnT tm H (Zeg H (Zeg H (Zeg H (Zv4 tm)))):=rfl
noncomputable def Zwb:Option Mem→List Nat
 |some m=>ZlI m
 |none=> []
theorem ZrW (i:Nat):ZlX H i=Zwb H[i]? :=by
 unfold ZlX Zwb
 cases H[i]? <;>rfl
theorem ZoV (m:Mem):Zwb (some m)=ZlI m:=rfl
theorem Zf1 {m:Mem} (hm:Zfi m=true):ZlI m=[]:=by simp[ZlI,hm]
theorem ZjV {m:Mem} (hm:Zfi m=true):okM m=true:=by simp[okM,hm]
theorem ZhS {m:Mem} (hm:Zfi m=true) (l:List Nat):Zl4 l m=m:=by simp[Zl4,hm]
theorem Zqx (es:List (List PV)) (z:Nat) (m:Bool):Zfi (.row es z m)=es.all fun c=>c.all ZgR:=rfl
theorem Zp7 {es:List (List PV)} (he: ∀c∈es,∀v∈c,ZgR v=true) (z:Nat) (m:Bool):Zfi (.row es z m)=true:=by
 rw[Zqx,List.all_eq_true]
 exact fun c hc=>List.all_eq_true.2 (he c hc)
theorem Sl.ids {q:PV} {es:List (List PV)} (hq:Sl q es):Zcp q=[]∧Zbv q=true∧(∀l,ren l q=q)∧Zb4 q=[]∧Zdd q=true∧(∀l,ZiE l q=q)∧ZgR q=true:=by
 rcases hq with⟨rfl,_⟩|rfl<;>exact⟨rfl,rfl,fun _=>rfl,rfl,rfl,fun _=>rfl,rfl⟩
theorem Flat.ids {v:PV} (hv:Flat v):Zcp v=[]∧Zbv v=true∧ ∀l,ren l v=v:=hv
end
end Go.Am
/-
 What the evaluator's call gives, as a contract of the model: for walks in the kit's own calculus.
-/
namespace Go.Am
open Go.RowKit
section
variable [Laid] {P : Program} {h : Hints} {E : Ev}
end
end Go.Am
/-
 Hints with functions whose contracts were proved otherwise.
-/
namespace Go.Am
section
variable [Laid] {P : Program} {h : Hints}
noncomputable def withPrims (h:Hints) (p:FuncId→Option (List PV→Option PV)):Hints:={h with prim:=p}
variable {p : FuncId → Option (List PV → Option PV)}
theorem Zii (ls:List Nat): ∀ (os:List Oper) (i:Nat),Zia (withPrims h p) ls os i=Zia h ls os i
 | [],_=>rfl
 |o::os,i=>by
  simp only[Zia,Zii ls os]
  rfl
theorem Zkz (ls:List Nat) (ops:Array Oper):Zfy (withPrims h p) ls ops=Zfy h ls ops:=by
 simp only[Zfy,Zii]
 rfl
theorem ZbI (f:FuncId): ∀c:Code,Zbx (withPrims h p) f c=Zbx h f c
 | .region _ _ _=>by simp only[Zbx,Zkz];rfl
 | .seq a b=>by simp only[Zbx,ZbI f a,ZbI f b]
 | .cond _ a b=>by simp only[Zbx,ZbI f a,ZbI f b]
 | .block _ b=>by simp only[Zbx,ZbI f b]
 | .loop b=>by simp only[Zbx,ZbI f b]
 | .skip| .label _| .exit _| .ret| .goto _| .refuse _| .rangeFunc _ _ _ _| .scope _=>rfl
theorem Zmc (f:FuncId):ZjC P (withPrims h p) f=ZjC P h f:=by
 simp only[ZjC,ZbI]
theorem ZgW (hS:Static P h) (hp: ∀f,(p f).isSome=true→ZsA P f):Static P (withPrims h p):=
 ⟨hS.mixed,fun f hf=>by rw[Zmc];exact hS.fns f hf,hp⟩
end
end Go.Am
