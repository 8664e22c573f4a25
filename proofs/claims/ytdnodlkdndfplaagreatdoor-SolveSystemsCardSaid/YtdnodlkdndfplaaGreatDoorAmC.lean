/-
 The evaluator of the model's code on plain values, with its soundness and its walking rules (part 3).
-/
import Derived.Test.YtdnodlkdndfplaaGreatDoorAmB
import Derived.IntWalk
set_option linter.constructorNameAsVariable false
set_option linter.unusedSimpArgs false
set_option linter.unusedVariables false
set_option linter.unusedSectionVars false
/-
 One rule for each operation.
-/
namespace Go.Am
section
variable {P : Program} {h : Hints} {E : Ev} {H : List Mem} {ρ : Operand → Option PV} {N : Nat} {ds : List (Option Tmp)}
noncomputable def ZrL (P:Program) (h:Hints) (E:Ev) (N:Nat) (ds:List (Option Tmp)) (dst:Option Tmp) (l:List Oper) (tm:List (Nat×PV)) (r:ZlR):Option St:=
 r.bind fun x=>(Ze3 N dst x.1 tm).bind fun tm'=>ZdN P h E N ds l ⟨tm',x.2⟩
noncomputable def ZA2 (P:Program) (h:Hints) (E:Ev) (N:Nat) (ds:List (Option Tmp)) (dst:Option Tmp) (op:Op) (l:List Oper) (tm:List (Nat×PV)) (H:List Mem) (g:Option Bool):Option St:=
 g.bind fun b=>bif b then ZrL P h E N ds dst l tm (opE P h E H (ev tm) op)else ZrL P h E N ds dst l tm (some (.tup [],H))
theorem ZAF (dst:Option Tmp) (op:Op) (ty:TypeId) (pos:String) (after:Array Edge) (l:List Oper) (tm:List (Nat×PV)):
 ZdN P h E N ds (⟨dst,op,ty,pos,after,none⟩::l) ⟨tm,H⟩=ZrL P h E N ds dst l tm (opE P h E H (ev tm) op):=by
 simp only[ZdN,ZrL]
 congr 1
 funext x
 cases Ze3 N dst x.1 tm<;>rfl
theorem ZrR (dst:Option Tmp) (op:Op) (ty:TypeId) (pos:String) (after:Array Edge) (j:Nat) (w:Bool) (l:List Oper) (tm:List (Nat×PV)):
 ZdN P h E N ds (⟨dst,op,ty,pos,after,some (j,w)⟩::l) ⟨tm,H⟩=ZA2 P h E N ds dst op l tm H (want ds tm j w):=by
 simp only[ZdN,ZA2]
 congr 1
 funext b
 cases b with
 |false=>
  simp only[cond_false,ZrL,Option.bind_some]
  cases Ze3 N dst (.tup []) tm<;>rfl
 |true=>
  simp only[cond_true,ZrL,Option.bind_assoc]
  congr 1
  funext x
  cases Ze3 N dst x.1 tm<;>rfl
theorem Zsy (dst:Option Tmp) (op:Op) (l:List Oper) (tm:List (Nat×PV)):ZA2 P h E N ds dst op l tm H (some true)=ZrL P h E N ds dst l tm (opE P h E H (ev tm) op):=rfl
theorem Zkm (dst:Option Tmp) (op:Op) (l:List Oper) (tm:List (Nat×PV)):ZA2 P h E N ds dst op l tm H (some false)=ZrL P h E N ds dst l tm (some (.tup [],H)):=rfl
noncomputable def Zxb:Option St→Option (Ex×St)
 |some s=>some (.normal,s)
 |none=>none
noncomputable def Zyc (w:Bool):Option PV→Option Bool
 |some (.bool b)=>some (b==w)
 |some (.tup [])=>some false
 |_=>none
theorem ZxT (j:Nat) (w:Bool) (tm:List (Nat×PV)):want ds tm j w=Zyc w (((ds[j]?).bind id).bind (get tm)):=by
 simp only[want]
 generalize((ds[j]?).bind id).bind (get tm)=x
 cases x with
 |none=>rfl
 |some v=>cases v<;>first
  |rfl
  |(rename_i vs;cases vs<;>rfl)
theorem ZAv (f:FuncId) (args:Array Operand) (ts:Array TypeId):opE P h E H ρ (.call ⟨.value (.func f),args,ts⟩)=(ZaR ρ args.toList).bind fun vs=>Zcl h E f vs H:=by
 show(if h.opn f then Zmw h E H ρ f ⟨.value (.func f),args,ts⟩else ZjC H (Zes h E H H.length ρ f ⟨.value (.func f),args,ts⟩))=_
 cases ho:h.opn f with
 |true=>rfl
 |false=>
  simp only[Bool.false_eq_true,if_false,Zes,ho,Zcl]
  cases ZaR ρ args.toList with
  |none=>rfl
  |some vs=>rfl
theorem Zah {x:Int} (h1: -9223372036854775808≤x) (h2:x≤9223372036854775807):IntKind.i64.wrap x=x:=by
 rw[IntKind.wrap_i64];omega
theorem Zqw {t:TypeId} {n:Nat} (ht:Zr7 P t=some true) (hn:ZaV P t=some n) (cs:List PV) (off:Nat) (hle:off+n≤cs.length):ZcT P t cs off=some (.agg ((cs.drop off).take n)):=by
 simp only[ZcT,ht,hn,Option.bind_some]
 rw[if_pos hle]
noncomputable def ZoW (P:Program) (h:Hints) (E:Ev) (N:Nat) (ls:List Nat):List Oper→Nat→List (Nat×Oper×List (Nat×PV)×PV)→St→Option St
 | [],_,_,s=>some s
 |⟨dst,op,ty,pos,after,none⟩::l,i,acc,s=>bif has i ls
  then(ZaE P h E s.hp (ev s.tm) ⟨dst,op,ty,pos,after,none⟩).bind fun v=>(Ze3 N dst v s.tm).bind fun tm=>ZoW P h E N ls l (i+1) ((i,⟨dst,op,ty,pos,after,none⟩,s.tm,v)::acc) ⟨tm,s.hp⟩
  else(opE P h E s.hp (ev s.tm) op).bind fun x=>(Ze3 N dst x.1 s.tm).bind fun tm=>(ZdV P h E (ZbX h ⟨dst,op,ty,pos,after,none⟩ acc) x.2).bind fun _=>ZoW P h E N ls l (i+1) (ZbX h ⟨dst,op,ty,pos,after,none⟩ acc) ⟨tm,x.2⟩
 |_::_,_,_,_=>none
noncomputable def noG:List Oper→Bool
 | []=>true
 |⟨_,_,_,_,_,none⟩::l=>noG l
 |_::_=>false
theorem Zse (N:Nat) (ops:Array Oper) (ls:List Nat): ∀ (l:List Oper) (i:Nat) (acc:List (Nat×Oper×List (Nat×PV)×PV)) (s:St),noG l=true→Za2 P h E N ops ls l i acc s=ZoW P h E N ls l i acc s
 | [],_,_,s,_=>rfl
 |⟨dst,op,ty,pos,after,some g⟩::l,i,acc,s,hg=>by cases hg
 |⟨dst,op,ty,pos,after,none⟩::l,i,acc,s,hg=>by
  show(ZfC P h E N ops ls i ⟨dst,op,ty,pos,after,none⟩ s).bind (fun s'=>bif has i ls then(ZwH P h E ops i ⟨dst,op,ty,pos,after,none⟩ s acc).bind fun acc'=>Za2 P h E N ops ls l (i+1) acc' s' else(ZdV P h E (ZbX h ⟨dst,op,ty,pos,after,none⟩ acc) s'.hp).bind fun _=>Za2 P h E N ops ls l (i+1) (ZbX h ⟨dst,op,ty,pos,after,none⟩ acc) s')=_
  have ih:=fun j acc s=>Zse N ops ls l j acc s hg
  cases hi:has i ls with
  |true=>
   simp only[ZoW,ZfC,hi,cond_true,ZrP,Zdq,Option.bind_some,ZwH]
   cases hlo:ZaE P h E s.hp (ev s.tm) ⟨dst,op,ty,pos,after,none⟩with
   |none=>rfl
   |some v=>
    simp only[Option.bind_some,Option.map_some]
    cases Ze3 N dst v s.tm with
    |none=>rfl
    |some tm=>simp only[Option.map_some,Option.bind_some];exact ih _ _ _
  |false=>
   simp only[ZoW,ZfC,hi,cond_false,ZcH,Zdq,Option.bind_some,Zs1,cond_true]
   cases opE P h E s.hp (ev s.tm) op with
   |none=>rfl
   |some x=>
    simp only[Option.bind_some]
    cases Ze3 N dst x.1 s.tm with
    |none=>rfl
    |some tm=>
     simp only[Option.map_some,Option.bind_some]
     cases ZdV P h E (ZbX h ⟨dst,op,ty,pos,after,none⟩ acc) x.2 with
     |none=>rfl
     |some _=>simp only[Option.bind_some];exact ih _ _ _
noncomputable def ZB5 (P:Program) (h:Hints) (E:Ev) (N:Nat) (ls:List Nat) (ops:Array Oper) (s:St):Option St:=Zpd P h E N ls ops s
theorem ZtM (N:Nat) (j:Nat) (ls:List Nat) (ops:Array Oper) (s:St) (hg:noG ops.toList=true):ZB5 P h E N (j::ls) ops s=ZoW P h E N (j::ls) ops.toList 0 [] s:=Zse N ops _ _ _ _ _ hg
theorem Zwl (c:Cx) (i:Nat) (ops:Array Oper) (d:Bool) (s:St):exS P h E c (.region i ops d) s=Zxb (ZB5 P h E c.N (h.light c.fid i) (rgo (h.perm c.fid i) ops) s):=by
 show(Zpd P h E c.N (h.light c.fid i) (rgo (h.perm c.fid i) ops) s).map _=_
 show _=Zxb (Zpd P h E c.N (h.light c.fid i) (rgo (h.perm c.fid i) ops) s)
 cases Zpd P h E c.N (h.light c.fid i) (rgo (h.perm c.fid i) ops) s<;>rfl
noncomputable def ZAT (P:Program) (h:Hints) (E:Ev) (N:Nat) (ls:List Nat) (l:List Oper) (i:Nat) (acc:List (Nat×Oper×List (Nat×PV)×PV)) (s:St):Option Unit→Option St
 |some _=>ZoW P h E N ls l i acc s
 |none=>none
noncomputable def ZxR (P:Program) (h:Hints) (E:Ev) (N:Nat) (ls:List Nat) (dst:Option Tmp) (l:List Oper) (i:Nat) (acc:List (Nat×Oper×List (Nat×PV)×PV)) (tm:List (Nat×PV)):ZlR→Option St
 |some x=>(Ze3 N dst x.1 tm).bind fun tm'=>ZAT P h E N ls l (i+1) acc ⟨tm',x.2⟩ (ZdV P h E acc x.2)
 |none=>none
noncomputable def ZAQ (P:Program) (h:Hints) (E:Ev) (N:Nat) (ls:List Nat) (dst:Option Tmp) (o:Oper) (l:List Oper) (i:Nat) (acc:List (Nat×Oper×List (Nat×PV)×PV)) (tm:List (Nat×PV)) (H:List Mem):Option PV→Option St
 |some v=>(Ze3 N dst v tm).bind fun tm'=>ZoW P h E N ls l (i+1) ((i,o,tm,v)::acc) ⟨tm',H⟩
 |none=>none
theorem ZqT (ls:List Nat) (N:Nat) (dst:Option Tmp) (op:Op) (ty:TypeId) (pos:String) (after:Array Edge) (l:List Oper) (i:Nat) (acc:List (Nat×Oper×List (Nat×PV)×PV)) (tm:List (Nat×PV)) (H:List Mem) (hi:has i ls=false):ZoW P h E N ls (⟨dst,op,ty,pos,after,none⟩::l) i acc ⟨tm,H⟩=ZxR P h E N ls dst l i (ZbX h ⟨dst,op,ty,pos,after,none⟩ acc) tm (opE P h E H (ev tm) op):=by
 simp only[ZoW,hi,cond_false]
 cases opE P h E H (ev tm) op with
 |none=>rfl
 |some x=>
  simp only[Option.bind_some,ZxR]
  congr 1
  funext tm'
  cases ZdV P h E (ZbX h ⟨dst,op,ty,pos,after,none⟩ acc) x.2<;>rfl
theorem Zq7 (ls:List Nat) (N:Nat) (dst:Option Tmp) (op:Op) (ty:TypeId) (pos:String) (after:Array Edge) (l:List Oper) (i:Nat) (acc:List (Nat×Oper×List (Nat×PV)×PV)) (tm:List (Nat×PV)) (H:List Mem) (hi:has i ls=true):ZoW P h E N ls (⟨dst,op,ty,pos,after,none⟩::l) i acc ⟨tm,H⟩=ZAQ P h E N ls dst ⟨dst,op,ty,pos,after,none⟩ l i acc tm H (ZaE P h E H (ev tm) ⟨dst,op,ty,pos,after,none⟩):=by
 simp only[ZoW,hi,cond_true]
 cases ZaE P h E H (ev tm) ⟨dst,op,ty,pos,after,none⟩with
 |none=>rfl
 |some v=>rfl
noncomputable def Zpn (P:Program) (h:Hints) (E:Ev) (acc:List (Nat×Oper×List (Nat×PV)×PV)) (H:List Mem) (v:PV):Option PV→Option Unit
 |some u=>bif Zfi u v then ZdV P h E acc H else none
 |none=>none
theorem ZrC (i:Nat) (o:Oper) (tm:List (Nat×PV)) (v:PV) (acc:List (Nat×Oper×List (Nat×PV)×PV)) (H:List Mem):ZdV P h E ((i,o,tm,v)::acc) H=Zpn P h E acc H v (ZaE P h E H (ev tm) o):=by
 show(ZaE P h E H (ev tm) o).bind (fun u=>bif Zfi u v then ZdV P h E acc H else none)=_
 cases ZaE P h E H (ev tm) o<;>rfl
theorem Zoz (acc:List (Nat×Oper×List (Nat×PV)×PV)) (H:List Mem) (u v:PV) (hs:Zfi u v=true):Zpn P h E acc H v (some u)=ZdV P h E acc H:=by
 simp only[Zpn,hs,cond_true]
theorem Zc4 (v:Option PV):((val v).bind fun x=>match x with|(v,[],[])=>some v|_=>none)=v:=by cases v<;>rfl
section
variable (dst : Option Tmp) (ty : TypeId) (pos : String) (after : Array Edge) (g : Option (Nat × Bool))
theorem Ze4 (t:TypeId) (a:Operand):ZaE P h E H ρ ⟨dst, .load t a,ty,pos,after,g⟩=ZjB P H t (ρ a):=Zc4 _
theorem Zcd (t:TypeId) (x i:Operand):ZaE P h E H ρ ⟨dst, .indexAddr t x i,ty,pos,after,g⟩=Zba P H t (ρ x) (ρ i):=Zc4 _
theorem Zj0 (x:Operand):ZaE P h E H ρ ⟨dst, .move x,ty,pos,after,g⟩=ρ x:=Zc4 _
end
noncomputable def Zdm (r:Nat):Code→Option Code
 | .seq a b=>match Zdm r a with
  |some c=>some c
  |none=>Zdm r b
 | .cond _ a b=>match Zdm r a with
  |some c=>some c
  |none=>Zdm r b
 | .block _ b=>Zdm r b
 | .loop b=>bif Nat.beq (Zdp b) r then some b else Zdm r b
 | .scope b=>Zdm r b
 |_=>none
noncomputable def Zb1 (f:Func):Code:=match f.body with|some c=>c|none=> .skip
noncomputable def Zbz (f:Func) (r:Nat):Code:=match Zdm r (Zb1 f)with|some c=>c|none=> .skip
def Flat (v:PV):Prop:=Zcv v=[]∧Zbv v=true∧ ∀l,ren l v=v
theorem Zr3:Flat .nils:=⟨rfl,rfl,fun _=>rfl⟩
theorem ZvJ (es:List (List PV)):Flat (.lst es):=⟨rfl,rfl,fun _=>rfl⟩
theorem Sl.flat {q:PV} {es:List (List PV)} (hq:Sl q es):Flat q:=by
 rcases hq with⟨rfl,_⟩|rfl
 ·exact Zr3
 ·exact ZvJ _
end
end Go.Am
/-
 Rules for calls, for what is built, for strings and maps.
-/
namespace Go.Am
section
variable {P : Program} {h : Hints} {E : Ev} {H : List Mem} {ρ : Operand → Option PV}
theorem Zzy {s d:TypeId} (hs:(P.underlying s).isSome=true) (hd:P.underlying d=some .string) (k:IntKind) {n:Int} (h0:0≤n) (h1:n<128):ZcF P H s d (.int k n)=some (.str ⟨#[UInt8.ofNat n.toNat]⟩):=by
 unfold ZcF
 obtain⟨x,hx⟩:=Option.isSome_iff_exists.1 hs
 rw[hx,hd]
 cases x<;>simp[h0,h1]
theorem Zpt (b:Bool):exp ZaB H (.bool b)=some (.bool b):=rfl
def Plain (v:PV):Prop:= ∀n H,exp (n+1) H v=some v
theorem ZrE:Plain .nils:=fun _ _=>rfl
theorem ZsY (es:List (List PV)):Plain (.lst es):=fun _ _=>rfl
theorem Sl.plain {q:PV} {es:List (List PV)} (hq:Sl q es):Plain q:=by
 rcases hq with⟨rfl,_⟩|rfl
 ·exact ZrE
 ·exact ZsY _
theorem Plain.exp {v:PV} (hv:Plain v):exp ZaB H v=some v:=hv 39 H
theorem Sl.rch {q:PV} {es:List (List PV)} (hq:Sl q es):rch ZaB H q=[]:=by
 rcases hq with⟨rfl,_⟩|rfl<;>rfl
end
end Go.Am
/-
 Rules for own memory numbered anew.
-/
namespace Go.Am
section
variable {P : Program} {h : Hints} {E : Ev} {H : List Mem}
noncomputable def ZqG (tm:List (Nat×PV)) (H:List Mem) (ids:List Nat):Option St:=
 if tm.all (fun x=>Zbv x.2)=true then
  (ZaR (fun i=>(H[i]?).bind fun m=>if(okM m&&(Znz m).all ids.contains)=true then some (ZnC ids m)else none) ids).map fun H'=>⟨tm.map fun x=>(x.1,ren ids x.2),H'⟩
 else none
noncomputable def ZBE (tm:List (Nat×PV)):List Nat:=(tm.flatMap fun x=>Zcv x.2).foldl Zb7 []
noncomputable def ZeC (H:List Mem) (ids:List Nat):List Nat:=(ids.flatMap (ZnT H)).foldl Zb7 ids
theorem ZoG (tm:List (Nat×PV)):Zd2 tm H=ZqG tm H (ZeC H (ZeC H (ZeC H (ZBE tm)))):=rfl
noncomputable def ZBP:Option Mem→List Nat
 |some m=>Znz m
 |none=> []
theorem Zvo (i:Nat):ZnT H i=ZBP H[i]? :=by
 unfold ZnT ZBP
 cases H[i]? <;>rfl
theorem Zth (m:Mem):ZBP (some m)=Znz m:=rfl
theorem Zgv {m:Mem} (hm:Zfr m=true):Znz m=[]:=by simp[Znz,hm]
theorem ZkP {m:Mem} (hm:Zfr m=true):okM m=true:=by simp[okM,hm]
theorem Zi2 {m:Mem} (hm:Zfr m=true) (l:List Nat):ZnC l m=m:=by simp[ZnC,hm]
theorem ZsX (es:List (List PV)) (z:Nat) (m:Bool):Zfr (.row es z m)=es.all fun c=>c.all ZgS:=rfl
theorem ZrZ {es:List (List PV)} (he: ∀c∈es,∀v∈c,ZgS v=true) (z:Nat) (m:Bool):Zfr (.row es z m)=true:=by
 rw[ZsX,List.all_eq_true]
 exact fun c hc=>List.all_eq_true.2 (he c hc)
theorem Sl.ids {q:PV} {es:List (List PV)} (hq:Sl q es):Zcv q=[]∧Zbv q=true∧(∀l,ren l q=q)∧Zb8 q=[]∧Zdj q=true∧(∀l,Zka l q=q)∧ZgS q=true:=by
 rcases hq with⟨rfl,_⟩|rfl<;>exact⟨rfl,rfl,fun _=>rfl,rfl,rfl,fun _=>rfl,rfl⟩
theorem Flat.ids {v:PV} (hv:Flat v):Zcv v=[]∧Zbv v=true∧ ∀l,ren l v=v:=hv
end
end Go.Am
/-
 What the evaluator's call gives, as a contract of the model: for walks in the kit's own calculus.
-/
namespace Go.Am
open Go.RowKit
section
variable [Laid] {P : Program} {h : Hints} {E : Ev}
end
end Go.Am
/-
 Hints with functions whose contracts were proved otherwise.
-/
namespace Go.Am
section
variable [Laid] {P : Program} {h : Hints}
noncomputable def withPrims (h:Hints) (p:FuncId→Option (List PV→Option PV)):Hints:={h with prim:=p}
variable {p : FuncId → Option (List PV → Option PV)}
theorem ZiP (ls:List Nat): ∀ (os:List Oper) (i:Nat),Zje (withPrims h p) ls os i=Zje h ls os i
 | [],_=>rfl
 |o::os,i=>by
  simp only[Zje,ZiP ls os]
  rfl
theorem ZlW (ls:List Nat) (ops:Array Oper):Zgd (withPrims h p) ls ops=Zgd h ls ops:=by
 simp only[Zgd,ZiP]
 rfl
theorem ZbD (f:FuncId): ∀c:Code,Zbd (withPrims h p) f c=Zbd h f c
 | .region _ _ _=>by simp only[Zbd,ZlW];rfl
 | .seq a b=>by simp only[Zbd,ZbD f a,ZbD f b]
 | .cond _ a b=>by simp only[Zbd,ZbD f a,ZbD f b]
 | .block _ b=>by simp only[Zbd,ZbD f b]
 | .loop b=>by simp only[Zbd,ZbD f b]
 | .skip| .label _| .exit _| .ret| .goto _| .refuse _| .rangeFunc _ _ _ _| .scope _=>rfl
theorem ZoO (f:FuncId):ZlN P (withPrims h p) f=ZlN P h f:=by
 simp only[ZlN,ZbD]
theorem Zeq (hS:Static P h) (hp: ∀f,(p f).isSome=true→Zxl P f):Static P (withPrims h p):=
 ⟨hS.mixed,fun f hf=>by rw[ZoO];exact hS.fns f hf,hp⟩
end
end Go.Am
