/-
 The evaluator of the model's code on plain values, with its soundness and its walking rules (part 3).
-/
import Derived.Test.YtkhpbclcfldhmaaGreatDoorAmB
import Derived.IntWalk
set_option linter.constructorNameAsVariable false
set_option linter.unusedSimpArgs false
set_option linter.unusedVariables false
set_option linter.unusedSectionVars false
/-
 One rule for each operation.
-/
namespace Go.Am
section
variable {P : Program} {h : Hints} {E : Ev} {H : List Mem} {ρ : Operand → Option PV} {N : Nat} {ds : List (Option Tmp)}
noncomputable def ZqD (P:Program) (h:Hints) (E:Ev) (N:Nat) (ds:List (Option Tmp)) (dst:Option Tmp) (l:List Oper) (tm:List (Nat×PV)) (r:Zle):Option St:=
 r.bind fun x=>(ZeE N dst x.1 tm).bind fun tm'=>ZdC P h E N ds l ⟨tm',x.2⟩
noncomputable def ZyD (P:Program) (h:Hints) (E:Ev) (N:Nat) (ds:List (Option Tmp)) (dst:Option Tmp) (op:Op) (l:List Oper) (tm:List (Nat×PV)) (H:List Mem) (g:Option Bool):Option St:=
 g.bind fun b=>bif b then ZqD P h E N ds dst l tm (opE P h E H (ev tm) op)else ZqD P h E N ds dst l tm (some (.tup [],H))
theorem Zyz (dst:Option Tmp) (op:Op) (ty:TypeId) (pos:String) (after:Array Edge) (l:List Oper) (tm:List (Nat×PV)):
 ZdC P h E N ds (⟨dst,op,ty,pos,after,none⟩::l) ⟨tm,H⟩=ZqD P h E N ds dst l tm (opE P h E H (ev tm) op):=by
 simp only[ZdC,ZqD]
 congr 1
 funext x
 cases ZeE N dst x.1 tm<;>rfl
theorem Zsy (dst:Option Tmp) (op:Op) (ty:TypeId) (pos:String) (after:Array Edge) (j:Nat) (w:Bool) (l:List Oper) (tm:List (Nat×PV)):
 ZdC P h E N ds (⟨dst,op,ty,pos,after,some (j,w)⟩::l) ⟨tm,H⟩=ZyD P h E N ds dst op l tm H (want ds tm j w):=by
 simp only[ZdC,ZyD]
 congr 1
 funext b
 cases b with
 |false=>
  simp only[cond_false,ZqD,Option.bind_some]
  cases ZeE N dst (.tup []) tm<;>rfl
 |true=>
  simp only[cond_true,ZqD,Option.bind_assoc]
  congr 1
  funext x
  cases ZeE N dst x.1 tm<;>rfl
theorem Zrz (dst:Option Tmp) (op:Op) (l:List Oper) (tm:List (Nat×PV)):ZyD P h E N ds dst op l tm H (some true)=ZqD P h E N ds dst l tm (opE P h E H (ev tm) op):=rfl
theorem ZjD (dst:Option Tmp) (op:Op) (l:List Oper) (tm:List (Nat×PV)):ZyD P h E N ds dst op l tm H (some false)=ZqD P h E N ds dst l tm (some (.tup [],H)):=rfl
noncomputable def Zu0:Option St→Option (Ex×St)
 |some s=>some (.normal,s)
 |none=>none
noncomputable def ZvS (w:Bool):Option PV→Option Bool
 |some (.bool b)=>some (b==w)
 |some (.tup [])=>some false
 |_=>none
theorem ZwZ (j:Nat) (w:Bool) (tm:List (Nat×PV)):want ds tm j w=ZvS w (((ds[j]?).bind id).bind (get tm)):=by
 simp only[want]
 generalize((ds[j]?).bind id).bind (get tm)=x
 cases x with
 |none=>rfl
 |some v=>cases v<;>first
  |rfl
  |(rename_i vs;cases vs<;>rfl)
theorem Zya (f:FuncId) (args:Array Operand) (ts:Array TypeId):opE P h E H ρ (.call ⟨.value (.func f),args,ts⟩)=(ZaQ ρ args.toList).bind fun vs=>Zch h E f vs H:=by
 show(if h.opn f then ZmC h E H ρ f ⟨.value (.func f),args,ts⟩else ZiB H (ZeC h E H H.length ρ f ⟨.value (.func f),args,ts⟩))=_
 cases ho:h.opn f with
 |true=>rfl
 |false=>
  simp only[Bool.false_eq_true,if_false,ZeC,ho,Zch]
  cases ZaQ ρ args.toList with
  |none=>rfl
  |some vs=>rfl
theorem Zar {x:Int} (h1: -9223372036854775808≤x) (h2:x≤9223372036854775807):IntKind.i64.wrap x=x:=by
 rw[IntKind.wrap_i64];omega
theorem ZoU {t:TypeId} {n:Nat} (ht:ZqE P t=some true) (hn:ZaV P t=some n) (cs:List PV) (off:Nat) (hle:off+n≤cs.length):ZcW P t cs off=some (.agg ((cs.drop off).take n)):=by
 simp only[ZcW,ht,hn,Option.bind_some]
 rw[if_pos hle]
noncomputable def Zm6 (P:Program) (h:Hints) (E:Ev) (N:Nat) (ls:List Nat):List Oper→Nat→List (Nat×Oper×List (Nat×PV)×PV)→St→Option St
 | [],_,_,s=>some s
 |⟨dst,op,ty,pos,after,none⟩::l,i,acc,s=>bif has i ls
  then(ZaD P h E s.hp (ev s.tm) ⟨dst,op,ty,pos,after,none⟩).bind fun v=>(ZeE N dst v s.tm).bind fun tm=>Zm6 P h E N ls l (i+1) ((i,⟨dst,op,ty,pos,after,none⟩,s.tm,v)::acc) ⟨tm,s.hp⟩
  else(opE P h E s.hp (ev s.tm) op).bind fun x=>(ZeE N dst x.1 s.tm).bind fun tm=>(Zc7 P h E (ZbV h ⟨dst,op,ty,pos,after,none⟩ acc) x.2).bind fun _=>Zm6 P h E N ls l (i+1) (ZbV h ⟨dst,op,ty,pos,after,none⟩ acc) ⟨tm,x.2⟩
 |_::_,_,_,_=>none
noncomputable def noG:List Oper→Bool
 | []=>true
 |⟨_,_,_,_,_,none⟩::l=>noG l
 |_::_=>false
theorem Zs4 (N:Nat) (ops:Array Oper) (ls:List Nat): ∀ (l:List Oper) (i:Nat) (acc:List (Nat×Oper×List (Nat×PV)×PV)) (s:St),noG l=true→Za6 P h E N ops ls l i acc s=Zm6 P h E N ls l i acc s
 | [],_,_,s,_=>rfl
 |⟨dst,op,ty,pos,after,some g⟩::l,i,acc,s,hg=>by cases hg
 |⟨dst,op,ty,pos,after,none⟩::l,i,acc,s,hg=>by
  show(ZfA P h E N ops ls i ⟨dst,op,ty,pos,after,none⟩ s).bind (fun s'=>bif has i ls then(ZtZ P h E ops i ⟨dst,op,ty,pos,after,none⟩ s acc).bind fun acc'=>Za6 P h E N ops ls l (i+1) acc' s' else(Zc7 P h E (ZbV h ⟨dst,op,ty,pos,after,none⟩ acc) s'.hp).bind fun _=>Za6 P h E N ops ls l (i+1) (ZbV h ⟨dst,op,ty,pos,after,none⟩ acc) s')=_
  have ih:=fun j acc s=>Zs4 N ops ls l j acc s hg
  cases hi:has i ls with
  |true=>
   simp only[Zm6,ZfA,hi,cond_true,Zq6,Zdq,Option.bind_some,ZtZ]
   cases hlo:ZaD P h E s.hp (ev s.tm) ⟨dst,op,ty,pos,after,none⟩with
   |none=>rfl
   |some v=>
    simp only[Option.bind_some,Option.map_some]
    cases ZeE N dst v s.tm with
    |none=>rfl
    |some tm=>simp only[Option.map_some,Option.bind_some];exact ih _ _ _
  |false=>
   simp only[Zm6,ZfA,hi,cond_false,ZcD,Zdq,Option.bind_some,ZsV,cond_true]
   cases opE P h E s.hp (ev s.tm) op with
   |none=>rfl
   |some x=>
    simp only[Option.bind_some]
    cases ZeE N dst x.1 s.tm with
    |none=>rfl
    |some tm=>
     simp only[Option.map_some,Option.bind_some]
     cases Zc7 P h E (ZbV h ⟨dst,op,ty,pos,after,none⟩ acc) x.2 with
     |none=>rfl
     |some _=>simp only[Option.bind_some];exact ih _ _ _
noncomputable def Zzw (P:Program) (h:Hints) (E:Ev) (N:Nat) (ls:List Nat) (ops:Array Oper) (s:St):Option St:=ZoV P h E N ls ops s
theorem ZrE (N:Nat) (j:Nat) (ls:List Nat) (ops:Array Oper) (s:St) (hg:noG ops.toList=true):Zzw P h E N (j::ls) ops s=Zm6 P h E N (j::ls) ops.toList 0 [] s:=Zs4 N ops _ _ _ _ _ hg
theorem Zt1 (c:Cx) (i:Nat) (ops:Array Oper) (d:Bool) (s:St):exS P h E c (.region i ops d) s=Zu0 (Zzw P h E c.N (h.light c.fid i) (rgo (h.perm c.fid i) ops) s):=by
 show(ZoV P h E c.N (h.light c.fid i) (rgo (h.perm c.fid i) ops) s).map _=_
 show _=Zu0 (ZoV P h E c.N (h.light c.fid i) (rgo (h.perm c.fid i) ops) s)
 cases ZoV P h E c.N (h.light c.fid i) (rgo (h.perm c.fid i) ops) s<;>rfl
noncomputable def Zx2 (P:Program) (h:Hints) (E:Ev) (N:Nat) (ls:List Nat) (l:List Oper) (i:Nat) (acc:List (Nat×Oper×List (Nat×PV)×PV)) (s:St):Option Unit→Option St
 |some _=>Zm6 P h E N ls l i acc s
 |none=>none
noncomputable def ZvZ (P:Program) (h:Hints) (E:Ev) (N:Nat) (ls:List Nat) (dst:Option Tmp) (l:List Oper) (i:Nat) (acc:List (Nat×Oper×List (Nat×PV)×PV)) (tm:List (Nat×PV)):Zle→Option St
 |some x=>(ZeE N dst x.1 tm).bind fun tm'=>Zx2 P h E N ls l (i+1) acc ⟨tm',x.2⟩ (Zc7 P h E acc x.2)
 |none=>none
noncomputable def Zyi (P:Program) (h:Hints) (E:Ev) (N:Nat) (ls:List Nat) (dst:Option Tmp) (o:Oper) (l:List Oper) (i:Nat) (acc:List (Nat×Oper×List (Nat×PV)×PV)) (tm:List (Nat×PV)) (H:List Mem):Option PV→Option St
 |some v=>(ZeE N dst v tm).bind fun tm'=>Zm6 P h E N ls l (i+1) ((i,o,tm,v)::acc) ⟨tm',H⟩
 |none=>none
theorem ZpZ (ls:List Nat) (N:Nat) (dst:Option Tmp) (op:Op) (ty:TypeId) (pos:String) (after:Array Edge) (l:List Oper) (i:Nat) (acc:List (Nat×Oper×List (Nat×PV)×PV)) (tm:List (Nat×PV)) (H:List Mem) (hi:has i ls=false):Zm6 P h E N ls (⟨dst,op,ty,pos,after,none⟩::l) i acc ⟨tm,H⟩=ZvZ P h E N ls dst l i (ZbV h ⟨dst,op,ty,pos,after,none⟩ acc) tm (opE P h E H (ev tm) op):=by
 simp only[Zm6,hi,cond_false]
 cases opE P h E H (ev tm) op with
 |none=>rfl
 |some x=>
  simp only[Option.bind_some,ZvZ]
  congr 1
  funext tm'
  cases Zc7 P h E (ZbV h ⟨dst,op,ty,pos,after,none⟩ acc) x.2<;>rfl
theorem Zqy (ls:List Nat) (N:Nat) (dst:Option Tmp) (op:Op) (ty:TypeId) (pos:String) (after:Array Edge) (l:List Oper) (i:Nat) (acc:List (Nat×Oper×List (Nat×PV)×PV)) (tm:List (Nat×PV)) (H:List Mem) (hi:has i ls=true):Zm6 P h E N ls (⟨dst,op,ty,pos,after,none⟩::l) i acc ⟨tm,H⟩=Zyi P h E N ls dst ⟨dst,op,ty,pos,after,none⟩ l i acc tm H (ZaD P h E H (ev tm) ⟨dst,op,ty,pos,after,none⟩):=by
 simp only[Zm6,hi,cond_true]
 cases ZaD P h E H (ev tm) ⟨dst,op,ty,pos,after,none⟩with
 |none=>rfl
 |some v=>rfl
noncomputable def Zo8 (P:Program) (h:Hints) (E:Ev) (acc:List (Nat×Oper×List (Nat×PV)×PV)) (H:List Mem) (v:PV):Option PV→Option Unit
 |some u=>bif Zfb u v then Zc7 P h E acc H else none
 |none=>none
theorem ZpV (i:Nat) (o:Oper) (tm:List (Nat×PV)) (v:PV) (acc:List (Nat×Oper×List (Nat×PV)×PV)) (H:List Mem):Zc7 P h E ((i,o,tm,v)::acc) H=Zo8 P h E acc H v (ZaD P h E H (ev tm) o):=by
 show(ZaD P h E H (ev tm) o).bind (fun u=>bif Zfb u v then Zc7 P h E acc H else none)=_
 cases ZaD P h E H (ev tm) o<;>rfl
theorem Zne (acc:List (Nat×Oper×List (Nat×PV)×PV)) (H:List Mem) (u v:PV) (hs:Zfb u v=true):Zo8 P h E acc H v (some u)=Zc7 P h E acc H:=by
 simp only[Zo8,hs,cond_true]
theorem Zco (v:Option PV):((val v).bind fun x=>match x with|(v,[],[])=>some v|_=>none)=v:=by cases v<;>rfl
section
variable (dst : Option Tmp) (ty : TypeId) (pos : String) (after : Array Edge) (g : Option (Nat × Bool))
theorem ZeH (t:TypeId) (a:Operand):ZaD P h E H ρ ⟨dst, .load t a,ty,pos,after,g⟩=Zjh P H t (ρ a):=Zco _
theorem Zb8 (t:TypeId) (x i:Operand):ZaD P h E H ρ ⟨dst, .indexAddr t x i,ty,pos,after,g⟩=Zbc P H t (ρ x) (ρ i):=Zco _
theorem ZjP (x:Operand):ZaD P h E H ρ ⟨dst, .move x,ty,pos,after,g⟩=ρ x:=Zco _
end
noncomputable def Zdl (r:Nat):Code→Option Code
 | .seq a b=>match Zdl r a with
  |some c=>some c
  |none=>Zdl r b
 | .cond _ a b=>match Zdl r a with
  |some c=>some c
  |none=>Zdl r b
 | .block _ b=>Zdl r b
 | .loop b=>bif Nat.beq (ZdT b) r then some b else Zdl r b
 | .scope b=>Zdl r b
 |_=>none
noncomputable def Zdg (f:Func):Code:=match f.body with|some c=>c|none=> .skip
noncomputable def Zbw (f:Func) (r:Nat):Code:=match Zdl r (Zdg f)with|some c=>c|none=> .skip
def Flat (v:PV):Prop:=Zcr v=[]∧Zbp v=true∧ ∀l,ren l v=v
theorem Zsx:Flat .nils:=⟨rfl,rfl,fun _=>rfl⟩
theorem ZtY (es:List (List PV)):Flat (.lst es):=⟨rfl,rfl,fun _=>rfl⟩
theorem Sl.flat {q:PV} {es:List (List PV)} (hq:Sl q es):Flat q:=by
 rcases hq with⟨rfl,_⟩|rfl
 ·exact Zsx
 ·exact ZtY _
end
end Go.Am
/-
 Rules for calls, for what is built, for strings and maps.
-/
namespace Go.Am
section
variable {P : Program} {h : Hints} {E : Ev} {H : List Mem} {ρ : Operand → Option PV}
theorem Zyf {s d:TypeId} (hs:(P.underlying s).isSome=true) (hd:P.underlying d=some .string) (k:IntKind) {n:Int} (h0:0≤n) (h1:n<128):ZcC P H s d (.int k n)=some (.str ⟨#[UInt8.ofNat n.toNat]⟩):=by
 unfold ZcC
 obtain⟨x,hx⟩:=Option.isSome_iff_exists.1 hs
 rw[hx,hd]
 cases x<;>simp[h0,h1]
theorem Zpg (b:Bool):exp ZaE H (.bool b)=some (.bool b):=rfl
def Plain (v:PV):Prop:= ∀n H,exp (n+1) H v=some v
theorem ZpX:Plain .nils:=fun _ _=>rfl
theorem Ztb (es:List (List PV)):Plain (.lst es):=fun _ _=>rfl
theorem Sl.plain {q:PV} {es:List (List PV)} (hq:Sl q es):Plain q:=by
 rcases hq with⟨rfl,_⟩|rfl
 ·exact ZpX
 ·exact Ztb _
theorem Plain.exp {v:PV} (hv:Plain v):exp ZaE H v=some v:=hv 39 H
theorem Sl.rch {q:PV} {es:List (List PV)} (hq:Sl q es):rch ZaE H q=[]:=by
 rcases hq with⟨rfl,_⟩|rfl<;>rfl
end
end Go.Am
/-
 Rules for own memory numbered anew.
-/
namespace Go.Am
section
variable {P : Program} {h : Hints} {E : Ev} {H : List Mem}
noncomputable def ZoY (tm:List (Nat×PV)) (H:List Mem) (ids:List Nat):Option St:=
 if tm.all (fun x=>Zbp x.2)=true then
  (ZaQ (fun i=>(H[i]?).bind fun m=>if(okM m&&(ZmD m).all ids.contains)=true then some (Znm ids m)else none) ids).map fun H'=>⟨tm.map fun x=>(x.1,ren ids x.2),H'⟩
 else none
noncomputable def ZyZ (tm:List (Nat×PV)):List Nat:=(tm.flatMap fun x=>Zcr x.2).foldl Zb6 []
noncomputable def ZeD (H:List Mem) (ids:List Nat):List Nat:=(ids.flatMap (Zm9 H)).foldl Zb6 ids
theorem Znb (tm:List (Nat×PV)):ZdY tm H=ZoY tm H (ZeD H (ZeD H (ZeD H (ZyZ tm)))):=rfl
noncomputable def Zy8:Option Mem→List Nat
 |some m=>ZmD m
 |none=> []
theorem Ztj (i:Nat):Zm9 H i=Zy8 H[i]? :=by
 unfold Zm9 Zy8
 cases H[i]? <;>rfl
theorem ZrF (m:Mem):Zy8 (some m)=ZmD m:=rfl
theorem Zgd {m:Mem} (hm:Zfu m=true):ZmD m=[]:=by simp[ZmD,hm]
theorem ZkM {m:Mem} (hm:Zfu m=true):okM m=true:=by simp[okM,hm]
theorem Zi2 {m:Mem} (hm:Zfu m=true) (l:List Nat):Znm l m=m:=by simp[Znm,hm]
theorem Zrt (es:List (List PV)) (z:Nat) (m:Bool):Zfu (.row es z m)=es.all fun c=>c.all Zgr:=rfl
theorem Zr9 {es:List (List PV)} (he: ∀c∈es,∀v∈c,Zgr v=true) (z:Nat) (m:Bool):Zfu (.row es z m)=true:=by
 rw[Zrt,List.all_eq_true]
 exact fun c hc=>List.all_eq_true.2 (he c hc)
theorem Sl.ids {q:PV} {es:List (List PV)} (hq:Sl q es):Zcr q=[]∧Zbp q=true∧(∀l,ren l q=q)∧Zb9 q=[]∧Zda q=true∧(∀l,Zjx l q=q)∧Zgr q=true:=by
 rcases hq with⟨rfl,_⟩|rfl<;>exact⟨rfl,rfl,fun _=>rfl,rfl,rfl,fun _=>rfl,rfl⟩
theorem Flat.ids {v:PV} (hv:Flat v):Zcr v=[]∧Zbp v=true∧ ∀l,ren l v=v:=hv
end
end Go.Am
/-
 What the evaluator's call gives, as a contract of the model: for walks in the kit's own calculus.
-/
namespace Go.Am
open Go.RowKit
section
variable [Laid] {P : Program} {h : Hints} {E : Ev}
end
end Go.Am
/-
 Hints with functions whose contracts were proved otherwise.
-/
namespace Go.Am
section
variable [Laid] {P : Program} {h : Hints}
noncomputable def withPrims (h:Hints) (p:FuncId→Option (List PV→Option PV)):Hints:={h with prim:=p}
variable {p : FuncId → Option (List PV → Option PV)}
theorem ZhX (ls:List Nat): ∀ (os:List Oper) (i:Nat),Zh1 (withPrims h p) ls os i=Zh1 h ls os i
 | [],_=>rfl
 |o::os,i=>by
  simp only[Zh1,ZhX ls os]
  rfl
theorem Zlm (ls:List Nat) (ops:Array Oper):ZfH (withPrims h p) ls ops=ZfH h ls ops:=by
 simp only[ZfH,ZhX]
 rfl
theorem ZbA (f:FuncId): ∀c:Code,Zbf (withPrims h p) f c=Zbf h f c
 | .region _ _ _=>by simp only[Zbf,Zlm];rfl
 | .seq a b=>by simp only[Zbf,ZbA f a,ZbA f b]
 | .cond _ a b=>by simp only[Zbf,ZbA f a,ZbA f b]
 | .block _ b=>by simp only[Zbf,ZbA f b]
 | .loop b=>by simp only[Zbf,ZbA f b]
 | .skip| .label _| .exit _| .ret| .goto _| .refuse _| .rangeFunc _ _ _ _| .scope _=>rfl
theorem ZmS (f:FuncId):Zk4 P (withPrims h p) f=Zk4 P h f:=by
 simp only[Zk4,ZbA]
theorem Zhx (hS:Static P h) (hp: ∀f,(p f).isSome=true→Zvc P f):Static P (withPrims h p):=
 ⟨hS.mixed,fun f hf=>by rw[ZmS];exact hS.fns f hf,hp⟩
end
end Go.Am
