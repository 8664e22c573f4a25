/-
 The evaluator of the model's code on plain values, with its soundness and its walking rules (part 3).
-/
import Derived.Test.YtdnodlkdndfplaaGreatDoorAmB
import Derived.IntWalk
set_option linter.constructorNameAsVariable false
set_option linter.unusedSimpArgs false
set_option linter.unusedVariables false
set_option linter.unusedSectionVars false
/-
 One rule for each operation.
-/
namespace Go.Am
section
variable {P : Program} {h : Hints} {E : Ev} {H : List Mem} {ρ : Operand → Option PV} {N : Nat} {ds : List (Option Tmp)}
noncomputable def Zrg (P:Program) (h:Hints) (E:Ev) (N:Nat) (ds:List (Option Tmp)) (dst:Option Tmp) (l:List Oper) (tm:List (Nat×PV)) (r:Zln):Option St:=
 r.bind fun x=>(ZeK N dst x.1 tm).bind fun tm'=>Zdw P h E N ds l ⟨tm',x.2⟩
noncomputable def ZAk (P:Program) (h:Hints) (E:Ev) (N:Nat) (ds:List (Option Tmp)) (dst:Option Tmp) (op:Op) (l:List Oper) (tm:List (Nat×PV)) (H:List Mem) (g:Option Bool):Option St:=
 g.bind fun b=>bif b then Zrg P h E N ds dst l tm (opE P h E H (ev tm) op)else Zrg P h E N ds dst l tm (some (.tup [],H))
theorem Zzp (dst:Option Tmp) (op:Op) (ty:TypeId) (pos:String) (after:Array Edge) (l:List Oper) (tm:List (Nat×PV)):
 Zdw P h E N ds (⟨dst,op,ty,pos,after,none⟩::l) ⟨tm,H⟩=Zrg P h E N ds dst l tm (opE P h E H (ev tm) op):=by
 simp only[Zdw,Zrg]
 congr 1
 funext x
 cases ZeK N dst x.1 tm<;>rfl
theorem ZrF (dst:Option Tmp) (op:Op) (ty:TypeId) (pos:String) (after:Array Edge) (j:Nat) (w:Bool) (l:List Oper) (tm:List (Nat×PV)):
 Zdw P h E N ds (⟨dst,op,ty,pos,after,some (j,w)⟩::l) ⟨tm,H⟩=ZAk P h E N ds dst op l tm H (want ds tm j w):=by
 simp only[Zdw,ZAk]
 congr 1
 funext b
 cases b with
 |false=>
  simp only[cond_false,Zrg,Option.bind_some]
  cases ZeK N dst (.tup []) tm<;>rfl
 |true=>
  simp only[cond_true,Zrg,Option.bind_assoc]
  congr 1
  funext x
  cases ZeK N dst x.1 tm<;>rfl
theorem Zr0 (dst:Option Tmp) (op:Op) (l:List Oper) (tm:List (Nat×PV)):ZAk P h E N ds dst op l tm H (some true)=Zrg P h E N ds dst l tm (opE P h E H (ev tm) op):=rfl
theorem ZjD (dst:Option Tmp) (op:Op) (l:List Oper) (tm:List (Nat×PV)):ZAk P h E N ds dst op l tm H (some false)=Zrg P h E N ds dst l tm (some (.tup [],H)):=rfl
noncomputable def ZwQ:Option St→Option (Ex×St)
 |some s=>some (.normal,s)
 |none=>none
noncomputable def Zxc (w:Bool):Option PV→Option Bool
 |some (.bool b)=>some (b==w)
 |some (.tup [])=>some false
 |_=>none
theorem Zxx (j:Nat) (w:Bool) (tm:List (Nat×PV)):want ds tm j w=Zxc w (((ds[j]?).bind id).bind (get tm)):=by
 simp only[want]
 generalize((ds[j]?).bind id).bind (get tm)=x
 cases x with
 |none=>rfl
 |some v=>cases v<;>first
  |rfl
  |(rename_i vs;cases vs<;>rfl)
theorem Zzo (f:FuncId) (args:Array Operand) (ts:Array TypeId):opE P h E H ρ (.call ⟨.value (.func f),args,ts⟩)=(ZaM ρ args.toList).bind fun vs=>Zb9 h E f vs H:=by
 show(if h.opn f then Zlw h E H ρ f ⟨.value (.func f),args,ts⟩else Zjb H (Zep h E H H.length ρ f ⟨.value (.func f),args,ts⟩))=_
 cases ho:h.opn f with
 |true=>rfl
 |false=>
  simp only[Bool.false_eq_true,if_false,Zep,ho,Zb9]
  cases ZaM ρ args.toList with
  |none=>rfl
  |some vs=>rfl
theorem Zae {x:Int} (h1: -9223372036854775808≤x) (h2:x≤9223372036854775807):IntKind.i64.wrap x=x:=by
 rw[IntKind.wrap_i64];omega
theorem Zpb {t:TypeId} {n:Nat} (ht:ZrN P t=some true) (hn:ZaP P t=some n) (cs:List PV) (off:Nat) (hle:off+n≤cs.length):ZcO P t cs off=some (.agg ((cs.drop off).take n)):=by
 simp only[ZcO,ht,hn,Option.bind_some]
 rw[if_pos hle]
noncomputable def ZnW (P:Program) (h:Hints) (E:Ev) (N:Nat) (ls:List Nat):List Oper→Nat→List (Nat×Oper×List (Nat×PV)×PV)→St→Option St
 | [],_,_,s=>some s
 |⟨dst,op,ty,pos,after,none⟩::l,i,acc,s=>bif has i ls
  then(ZaB P h E s.hp (ev s.tm) ⟨dst,op,ty,pos,after,none⟩).bind fun v=>(ZeK N dst v s.tm).bind fun tm=>ZnW P h E N ls l (i+1) ((i,⟨dst,op,ty,pos,after,none⟩,s.tm,v)::acc) ⟨tm,s.hp⟩
  else(opE P h E s.hp (ev s.tm) op).bind fun x=>(ZeK N dst x.1 s.tm).bind fun tm=>(ZdC P h E (ZbP h ⟨dst,op,ty,pos,after,none⟩ acc) x.2).bind fun _=>ZnW P h E N ls l (i+1) (ZbP h ⟨dst,op,ty,pos,after,none⟩ acc) ⟨tm,x.2⟩
 |_::_,_,_,_=>none
noncomputable def noG:List Oper→Bool
 | []=>true
 |⟨_,_,_,_,_,none⟩::l=>noG l
 |_::_=>false
theorem ZtL (N:Nat) (ops:Array Oper) (ls:List Nat): ∀ (l:List Oper) (i:Nat) (acc:List (Nat×Oper×List (Nat×PV)×PV)) (s:St),noG l=true→ZaZ P h E N ops ls l i acc s=ZnW P h E N ls l i acc s
 | [],_,_,s,_=>rfl
 |⟨dst,op,ty,pos,after,some g⟩::l,i,acc,s,hg=>by cases hg
 |⟨dst,op,ty,pos,after,none⟩::l,i,acc,s,hg=>by
  show(Zfq P h E N ops ls i ⟨dst,op,ty,pos,after,none⟩ s).bind (fun s'=>bif has i ls then(ZvV P h E ops i ⟨dst,op,ty,pos,after,none⟩ s acc).bind fun acc'=>ZaZ P h E N ops ls l (i+1) acc' s' else(ZdC P h E (ZbP h ⟨dst,op,ty,pos,after,none⟩ acc) s'.hp).bind fun _=>ZaZ P h E N ops ls l (i+1) (ZbP h ⟨dst,op,ty,pos,after,none⟩ acc) s')=_
  have ih:=fun j acc s=>ZtL N ops ls l j acc s hg
  cases hi:has i ls with
  |true=>
   simp only[ZnW,Zfq,hi,cond_true,Zsg,Zdd,Option.bind_some,ZvV]
   cases hlo:ZaB P h E s.hp (ev s.tm) ⟨dst,op,ty,pos,after,none⟩with
   |none=>rfl
   |some v=>
    simp only[Option.bind_some,Option.map_some]
    cases ZeK N dst v s.tm with
    |none=>rfl
    |some tm=>simp only[Option.map_some,Option.bind_some];exact ih _ _ _
  |false=>
   simp only[ZnW,Zfq,hi,cond_false,Zcx,Zdd,Option.bind_some,ZrZ,cond_true]
   cases opE P h E s.hp (ev s.tm) op with
   |none=>rfl
   |some x=>
    simp only[Option.bind_some]
    cases ZeK N dst x.1 s.tm with
    |none=>rfl
    |some tm=>
     simp only[Option.map_some,Option.bind_some]
     cases ZdC P h E (ZbP h ⟨dst,op,ty,pos,after,none⟩ acc) x.2 with
     |none=>rfl
     |some _=>simp only[Option.bind_some];exact ih _ _ _
noncomputable def ZBo (P:Program) (h:Hints) (E:Ev) (N:Nat) (ls:List Nat) (ops:Array Oper) (s:St):Option St:=Zgh P h E N ls ops s
theorem ZsM (N:Nat) (j:Nat) (ls:List Nat) (ops:Array Oper) (s:St) (hg:noG ops.toList=true):ZBo P h E N (j::ls) ops s=ZnW P h E N (j::ls) ops.toList 0 [] s:=ZtL N ops _ _ _ _ _ hg
theorem Zvn (c:Cx) (i:Nat) (ops:Array Oper) (d:Bool) (s:St):exS P h E c (.region i ops d) s=ZwQ (ZBo P h E c.N (h.light c.fid i) (rgo (h.perm c.fid i) ops) s):=by
 show(Zgh P h E c.N (h.light c.fid i) (rgo (h.perm c.fid i) ops) s).map _=_
 show _=ZwQ (Zgh P h E c.N (h.light c.fid i) (rgo (h.perm c.fid i) ops) s)
 cases Zgh P h E c.N (h.light c.fid i) (rgo (h.perm c.fid i) ops) s<;>rfl
noncomputable def ZyO (P:Program) (h:Hints) (E:Ev) (N:Nat) (ls:List Nat) (l:List Oper) (i:Nat) (acc:List (Nat×Oper×List (Nat×PV)×PV)) (s:St):Option Unit→Option St
 |some _=>ZnW P h E N ls l i acc s
 |none=>none
noncomputable def Zyn (P:Program) (h:Hints) (E:Ev) (N:Nat) (ls:List Nat) (dst:Option Tmp) (l:List Oper) (i:Nat) (acc:List (Nat×Oper×List (Nat×PV)×PV)) (tm:List (Nat×PV)):Zln→Option St
 |some x=>(ZeK N dst x.1 tm).bind fun tm'=>ZyO P h E N ls l (i+1) acc ⟨tm',x.2⟩ (ZdC P h E acc x.2)
 |none=>none
noncomputable def Zz3 (P:Program) (h:Hints) (E:Ev) (N:Nat) (ls:List Nat) (dst:Option Tmp) (o:Oper) (l:List Oper) (i:Nat) (acc:List (Nat×Oper×List (Nat×PV)×PV)) (tm:List (Nat×PV)) (H:List Mem):Option PV→Option St
 |some v=>(ZeK N dst v tm).bind fun tm'=>ZnW P h E N ls l (i+1) ((i,o,tm,v)::acc) ⟨tm',H⟩
 |none=>none
theorem Zqy (ls:List Nat) (N:Nat) (dst:Option Tmp) (op:Op) (ty:TypeId) (pos:String) (after:Array Edge) (l:List Oper) (i:Nat) (acc:List (Nat×Oper×List (Nat×PV)×PV)) (tm:List (Nat×PV)) (H:List Mem) (hi:has i ls=false):ZnW P h E N ls (⟨dst,op,ty,pos,after,none⟩::l) i acc ⟨tm,H⟩=Zyn P h E N ls dst l i (ZbP h ⟨dst,op,ty,pos,after,none⟩ acc) tm (opE P h E H (ev tm) op):=by
 simp only[ZnW,hi,cond_false]
 cases opE P h E H (ev tm) op with
 |none=>rfl
 |some x=>
  simp only[Option.bind_some,Zyn]
  congr 1
  funext tm'
  cases ZdC P h E (ZbP h ⟨dst,op,ty,pos,after,none⟩ acc) x.2<;>rfl
theorem ZqC (ls:List Nat) (N:Nat) (dst:Option Tmp) (op:Op) (ty:TypeId) (pos:String) (after:Array Edge) (l:List Oper) (i:Nat) (acc:List (Nat×Oper×List (Nat×PV)×PV)) (tm:List (Nat×PV)) (H:List Mem) (hi:has i ls=true):ZnW P h E N ls (⟨dst,op,ty,pos,after,none⟩::l) i acc ⟨tm,H⟩=Zz3 P h E N ls dst ⟨dst,op,ty,pos,after,none⟩ l i acc tm H (ZaB P h E H (ev tm) ⟨dst,op,ty,pos,after,none⟩):=by
 simp only[ZnW,hi,cond_true]
 cases ZaB P h E H (ev tm) ⟨dst,op,ty,pos,after,none⟩with
 |none=>rfl
 |some v=>rfl
noncomputable def ZpO (P:Program) (h:Hints) (E:Ev) (acc:List (Nat×Oper×List (Nat×PV)×PV)) (H:List Mem) (v:PV):Option PV→Option Unit
 |some u=>bif ZeX u v then ZdC P h E acc H else none
 |none=>none
theorem ZqO (i:Nat) (o:Oper) (tm:List (Nat×PV)) (v:PV) (acc:List (Nat×Oper×List (Nat×PV)×PV)) (H:List Mem):ZdC P h E ((i,o,tm,v)::acc) H=ZpO P h E acc H v (ZaB P h E H (ev tm) o):=by
 show(ZaB P h E H (ev tm) o).bind (fun u=>bif ZeX u v then ZdC P h E acc H else none)=_
 cases ZaB P h E H (ev tm) o<;>rfl
theorem Znu (acc:List (Nat×Oper×List (Nat×PV)×PV)) (H:List Mem) (u v:PV) (hs:ZeX u v=true):ZpO P h E acc H v (some u)=ZdC P h E acc H:=by
 simp only[ZpO,hs,cond_true]
theorem ZcS (v:Option PV):((val v).bind fun x=>match x with|(v,[],[])=>some v|_=>none)=v:=by cases v<;>rfl
section
variable (dst : Option Tmp) (ty : TypeId) (pos : String) (after : Array Edge) (g : Option (Nat × Bool))
theorem ZeO (t:TypeId) (a:Operand):ZaB P h E H ρ ⟨dst, .load t a,ty,pos,after,g⟩=Zji P H t (ρ a):=ZcS _
theorem Zb0 (t:TypeId) (x i:Operand):ZaB P h E H ρ ⟨dst, .indexAddr t x i,ty,pos,after,g⟩=Za4 P H t (ρ x) (ρ i):=ZcS _
theorem ZjH (x:Operand):ZaB P h E H ρ ⟨dst, .move x,ty,pos,after,g⟩=ρ x:=ZcS _
end
noncomputable def Zc5 (r:Nat):Code→Option Code
 | .seq a b=>match Zc5 r a with
  |some c=>some c
  |none=>Zc5 r b
 | .cond _ a b=>match Zc5 r a with
  |some c=>some c
  |none=>Zc5 r b
 | .block _ b=>Zc5 r b
 | .loop b=>bif Nat.beq (Zdc b) r then some b else Zc5 r b
 | .scope b=>Zc5 r b
 |_=>none
noncomputable def ZbU (f:Func):Code:=match f.body with|some c=>c|none=> .skip
noncomputable def Zcp (f:Func) (r:Nat):Code:=match Zc5 r (ZbU f)with|some c=>c|none=> .skip
def Flat (v:PV):Prop:=Zci v=[]∧Zbp v=true∧ ∀l,ren l v=v
theorem Ztg:Flat .nils:=⟨rfl,rfl,fun _=>rfl⟩
theorem ZvL (es:List (List PV)):Flat (.lst es):=⟨rfl,rfl,fun _=>rfl⟩
theorem Sl.flat {q:PV} {es:List (List PV)} (hq:Sl q es):Flat q:=by
 rcases hq with⟨rfl,_⟩|rfl
 ·exact Ztg
 ·exact ZvL _
end
end Go.Am
/-
 Rules for calls, for what is built, for strings and maps.
-/
namespace Go.Am
section
variable {P : Program} {h : Hints} {E : Ev} {H : List Mem} {ρ : Operand → Option PV}
theorem Zzq {s d:TypeId} (hs:(P.underlying s).isSome=true) (hd:P.underlying d=some .string) (k:IntKind) {n:Int} (h0:0≤n) (h1:n<128):Zcw P H s d (.int k n)=some (.str ⟨#[UInt8.ofNat n.toNat]⟩):=by
 unfold Zcw
 obtain⟨x,hx⟩:=Option.isSome_iff_exists.1 hs
 rw[hx,hd]
 cases x<;>simp[h0,h1]
theorem Zp7 (b:Bool):exp Zax H (.bool b)=some (.bool b):=rfl
theorem ZoM:exp Zax H .nils=some .nils:=rfl
def Plain (v:PV):Prop:= ∀n H,exp (n+1) H v=some v
theorem ZqL:Plain .nils:=fun _ _=>rfl
theorem Zsc (es:List (List PV)):Plain (.lst es):=fun _ _=>rfl
theorem Sl.plain {q:PV} {es:List (List PV)} (hq:Sl q es):Plain q:=by
 rcases hq with⟨rfl,_⟩|rfl
 ·exact ZqL
 ·exact Zsc _
theorem Plain.exp {v:PV} (hv:Plain v):exp Zax H v=some v:=hv 39 H
theorem Sl.rch {q:PV} {es:List (List PV)} (hq:Sl q es):rch Zax H q=[]:=by
 rcases hq with⟨rfl,_⟩|rfl<;>rfl
end
end Go.Am
/-
 Rules for own memory numbered anew.
-/
namespace Go.Am
section
variable {P : Program} {h : Hints} {E : Ev} {H : List Mem}
noncomputable def Zpf (tm:List (Nat×PV)) (H:List Mem) (ids:List Nat):Option St:=
 if tm.all (fun x=>Zbp x.2)=true then
  (ZaM (fun i=>(H[i]?).bind fun m=>if(okM m&&(Zm4 m).all ids.contains)=true then some (Zos ids m)else none) ids).map fun H'=>⟨tm.map fun x=>(x.1,ren ids x.2),H'⟩
 else none
noncomputable def ZAK (tm:List (Nat×PV)):List Nat:=(tm.flatMap fun x=>Zci x.2).foldl ZbW []
noncomputable def Zev (H:List Mem) (ids:List Nat):List Nat:=(ids.flatMap (Zoj H)).foldl ZbW ids
theorem Znh (tm:List (Nat×PV)):ZdF tm H=Zpf tm H (Zev H (Zev H (Zev H (ZAK tm)))):=rfl
noncomputable def ZAY:Option Mem→List Nat
 |some m=>Zm4 m
 |none=> []
theorem Zuo (i:Nat):Zoj H i=ZAY H[i]? :=by
 unfold Zoj ZAY
 cases H[i]? <;>rfl
theorem Zr8 (m:Mem):ZAY (some m)=Zm4 m:=rfl
theorem Zf8 {m:Mem} (hm:Zfj m=true):Zm4 m=[]:=by simp[Zm4,hm]
theorem ZkN {m:Mem} (hm:Zfj m=true):okM m=true:=by simp[okM,hm]
theorem Zh4 {m:Mem} (hm:Zfj m=true) (l:List Nat):Zos l m=m:=by simp[Zos,hm]
theorem Zt0 (es:List (List PV)) (z:Nat) (m:Bool):Zfj (.row es z m)=es.all fun c=>c.all Zgr:=rfl
theorem ZtG {es:List (List PV)} (he: ∀c∈es,∀v∈c,Zgr v=true) (z:Nat) (m:Bool):Zfj (.row es z m)=true:=by
 rw[Zt0,List.all_eq_true]
 exact fun c hc=>List.all_eq_true.2 (he c hc)
theorem Sl.ids {q:PV} {es:List (List PV)} (hq:Sl q es):Zci q=[]∧Zbp q=true∧(∀l,ren l q=q)∧ZbY q=[]∧Zda q=true∧(∀l,Zjp l q=q)∧Zgr q=true:=by
 rcases hq with⟨rfl,_⟩|rfl<;>exact⟨rfl,rfl,fun _=>rfl,rfl,rfl,fun _=>rfl,rfl⟩
theorem Flat.ids {v:PV} (hv:Flat v):Zci v=[]∧Zbp v=true∧ ∀l,ren l v=v:=hv
end
end Go.Am
/-
 What the evaluator's call gives, as a contract of the model: for walks in the kit's own calculus.
-/
namespace Go.Am
open Go.RowKit
section
variable [Laid] {P : Program} {h : Hints} {E : Ev}
end
end Go.Am
/-
 Hints with functions whose contracts were proved otherwise.
-/
namespace Go.Am
section
variable [Laid] {P : Program} {h : Hints}
noncomputable def withPrims (h:Hints) (p:FuncId→Option (List PV→Option PV)):Hints:={h with prim:=p}
variable {p : FuncId → Option (List PV → Option PV)}
theorem Ziy (ls:List Nat): ∀ (os:List Oper) (i:Nat),ZiV (withPrims h p) ls os i=ZiV h ls os i
 | [],_=>rfl
 |o::os,i=>by
  simp only[ZiV,Ziy ls os]
  rfl
theorem ZmA (ls:List Nat) (ops:Array Oper):Zfy (withPrims h p) ls ops=Zfy h ls ops:=by
 simp only[Zfy,Ziy]
 rfl
theorem Zbx (f:FuncId): ∀c:Code,Za7 (withPrims h p) f c=Za7 h f c
 | .region _ _ _=>by simp only[Za7,ZmA];rfl
 | .seq a b=>by simp only[Za7,Zbx f a,Zbx f b]
 | .cond _ a b=>by simp only[Za7,Zbx f a,Zbx f b]
 | .block _ b=>by simp only[Za7,Zbx f b]
 | .loop b=>by simp only[Za7,Zbx f b]
 | .skip| .label _| .exit _| .ret| .goto _| .refuse _| .rangeFunc _ _ _ _| .scope _=>rfl
theorem Zn7 (f:FuncId):ZkR P (withPrims h p) f=ZkR P h f:=by
 simp only[ZkR,Zbx]
theorem Zez (hS:Static P h) (hp: ∀f,(p f).isSome=true→Zwo P f):Static P (withPrims h p):=
 ⟨hS.mixed,fun f hf=>by rw[Zn7];exact hS.fns f hf,hp⟩
end
end Go.Am
