/-
 The evaluator of the model's code on plain values, with its soundness and its walking rules (part 3).
-/
import Derived.Test.YtbdkglokkepmfaaDoorAmB
import Derived.IntWalk
set_option linter.constructorNameAsVariable false
set_option linter.unusedSimpArgs false
set_option linter.unusedVariables false
/-
 One rule for each operation.
-/
namespace Go.Am
section
variable {P : Program} {h : Hints} {E : Ev} {H : List Mem} {ρ : Operand → Option PV} {N : Nat} {ds : List (Option Tmp)}
noncomputable def ZnU (P:Program) (h:Hints) (E:Ev) (N:Nat) (ds:List (Option Tmp)) (dst:Option Tmp) (l:List Oper) (tm:List (Nat×PV)) (r:ZjO):Option St:=
 r.bind fun x=>(Zeg N dst x.1 tm).bind fun tm'=>Zdh P h E N ds l ⟨tm',x.2⟩
noncomputable def Zuw (P:Program) (h:Hints) (E:Ev) (N:Nat) (ds:List (Option Tmp)) (dst:Option Tmp) (op:Op) (l:List Oper) (tm:List (Nat×PV)) (H:List Mem) (g:Option Bool):Option St:=
 g.bind fun b=>bif b then ZnU P h E N ds dst l tm (opE P h E H (ev tm) op)else ZnU P h E N ds dst l tm (some (.tup [],H))
theorem ZtZ (dst:Option Tmp) (op:Op) (ty:TypeId) (pos:String) (after:Array Edge) (l:List Oper) (tm:List (Nat×PV)):
 Zdh P h E N ds (⟨dst,op,ty,pos,after,none⟩::l) ⟨tm,H⟩=ZnU P h E N ds dst l tm (opE P h E H (ev tm) op):=by
 simp only[Zdh,ZnU]
 congr 1
 funext x
 cases Zeg N dst x.1 tm<;>rfl
theorem Zpa (dst:Option Tmp) (op:Op) (ty:TypeId) (pos:String) (after:Array Edge) (j:Nat) (w:Bool) (l:List Oper) (tm:List (Nat×PV)):
 Zdh P h E N ds (⟨dst,op,ty,pos,after,some (j,w)⟩::l) ⟨tm,H⟩=Zuw P h E N ds dst op l tm H (want ds tm j w):=by
 simp only[Zdh,Zuw]
 congr 1
 funext b
 cases b with
 |false=>
  simp only[cond_false,ZnU,Option.bind_some]
  cases Zeg N dst (.tup []) tm<;>rfl
 |true=>
  simp only[cond_true,ZnU,Option.bind_assoc]
  congr 1
  funext x
  cases Zeg N dst x.1 tm<;>rfl
theorem ZpJ (dst:Option Tmp) (op:Op) (l:List Oper) (tm:List (Nat×PV)):Zuw P h E N ds dst op l tm H (some true)=ZnU P h E N ds dst l tm (opE P h E H (ev tm) op):=rfl
theorem Zin (dst:Option Tmp) (op:Op) (l:List Oper) (tm:List (Nat×PV)):Zuw P h E N ds dst op l tm H (some false)=ZnU P h E N ds dst l tm (some (.tup [],H)):=rfl
noncomputable def ZrI:Option St→Option (Ex×St)
 |some s=>some (.normal,s)
 |none=>none
noncomputable def ZsQ (w:Bool):Option PV→Option Bool
 |some (.bool b)=>some (b==w)
 |some (.tup [])=>some false
 |_=>none
theorem Zsf (j:Nat) (w:Bool) (tm:List (Nat×PV)):want ds tm j w=ZsQ w (((ds[j]?).bind id).bind (get tm)):=by
 simp only[want]
 generalize((ds[j]?).bind id).bind (get tm)=x
 cases x with
 |none=>rfl
 |some v=>cases v<;>first
  |rfl
  |(rename_i vs;cases vs<;>rfl)
theorem ZtQ (f:FuncId) (args:Array Operand) (ts:Array TypeId):opE P h E H ρ (.call ⟨.value (.func f),args,ts⟩)=(ZaS ρ args.toList).bind fun vs=>Zb1 h E f vs H:=by
 show(if h.opn f then Zkb h E H ρ f ⟨.value (.func f),args,ts⟩else ZhG H (Zd1 h E H H.length ρ f ⟨.value (.func f),args,ts⟩))=_
 cases ho:h.opn f with
 |true=>rfl
 |false=>
  simp only[Bool.false_eq_true,if_false,Zd1,ho,Zb1]
  cases ZaS ρ args.toList with
  |none=>rfl
  |some vs=>rfl
theorem ZgA {x:Int} (h1: -9223372036854775808≤x) (h2:x≤9223372036854775807):IntKind.i64.wrap x=x:=by
 rw[IntKind.wrap_i64];omega
theorem Zl6 {t:TypeId} {n:Nat} (ht:ZnT P t=some true) (hn:ZaV P t=some n) (cs:List PV) (off:Nat) (hle:off+n≤cs.length):ZcD P t cs off=some (.agg ((cs.drop off).take n)):=by
 simp only[ZcD,ht,hn,Option.bind_some]
 rw[if_pos hle]
noncomputable def ZlU (P:Program) (h:Hints) (E:Ev) (N:Nat) (ls:List Nat):List Oper→Nat→List (Nat×Oper×List (Nat×PV)×PV)→St→Option St
 | [],_,_,s=>some s
 |⟨dst,op,ty,pos,after,none⟩::l,i,acc,s=>bif has i ls
  then(ZaM P h E s.hp (ev s.tm) ⟨dst,op,ty,pos,after,none⟩).bind fun v=>(Zeg N dst v s.tm).bind fun tm=>ZlU P h E N ls l (i+1) ((i,⟨dst,op,ty,pos,after,none⟩,s.tm,v)::acc) ⟨tm,s.hp⟩
  else(opE P h E s.hp (ev s.tm) op).bind fun x=>(Zeg N dst x.1 s.tm).bind fun tm=>(ZcO P h E (ZbK h ⟨dst,op,ty,pos,after,none⟩ acc) x.2).bind fun _=>ZlU P h E N ls l (i+1) (ZbK h ⟨dst,op,ty,pos,after,none⟩ acc) ⟨tm,x.2⟩
 |_::_,_,_,_=>none
noncomputable def noG:List Oper→Bool
 | []=>true
 |⟨_,_,_,_,_,none⟩::l=>noG l
 |_::_=>false
theorem Zoj (N:Nat) (ops:Array Oper) (ls:List Nat): ∀ (l:List Oper) (i:Nat) (acc:List (Nat×Oper×List (Nat×PV)×PV)) (s:St),noG l=true→Za6 P h E N ops ls l i acc s=ZlU P h E N ls l i acc s
 | [],_,_,s,_=>rfl
 |⟨dst,op,ty,pos,after,some g⟩::l,i,acc,s,hg=>by cases hg
 |⟨dst,op,ty,pos,after,none⟩::l,i,acc,s,hg=>by
  show(ZeQ P h E N ops ls i ⟨dst,op,ty,pos,after,none⟩ s).bind (fun s'=>bif has i ls then(ZqM P h E ops i ⟨dst,op,ty,pos,after,none⟩ s acc).bind fun acc'=>Za6 P h E N ops ls l (i+1) acc' s' else(ZcO P h E (ZbK h ⟨dst,op,ty,pos,after,none⟩ acc) s'.hp).bind fun _=>Za6 P h E N ops ls l (i+1) (ZbK h ⟨dst,op,ty,pos,after,none⟩ acc) s')=_
  have ih:=fun j acc s=>Zoj N ops ls l j acc s hg
  cases hi:has i ls with
  |true=>
   simp only[ZlU,ZeQ,hi,cond_true,Zoq,Zc8,Option.bind_some,ZqM]
   cases hlo:ZaM P h E s.hp (ev s.tm) ⟨dst,op,ty,pos,after,none⟩with
   |none=>rfl
   |some v=>
    simp only[Option.bind_some,Option.map_some]
    cases Zeg N dst v s.tm with
    |none=>rfl
    |some tm=>simp only[Option.map_some,Option.bind_some];exact ih _ _ _
  |false=>
   simp only[ZlU,ZeQ,hi,cond_false,Zco,Zc8,Option.bind_some,ZpX,cond_true]
   cases opE P h E s.hp (ev s.tm) op with
   |none=>rfl
   |some x=>
    simp only[Option.bind_some]
    cases Zeg N dst x.1 s.tm with
    |none=>rfl
    |some tm=>
     simp only[Option.map_some,Option.bind_some]
     cases ZcO P h E (ZbK h ⟨dst,op,ty,pos,after,none⟩ acc) x.2 with
     |none=>rfl
     |some _=>simp only[Option.bind_some];exact ih _ _ _
noncomputable def Zvh (P:Program) (h:Hints) (E:Ev) (N:Nat) (ls:List Nat) (ops:Array Oper) (s:St):Option St:=ZmC P h E N ls ops s
theorem ZpQ (N:Nat) (j:Nat) (ls:List Nat) (ops:Array Oper) (s:St) (hg:noG ops.toList=true):Zvh P h E N (j::ls) ops s=ZlU P h E N (j::ls) ops.toList 0 [] s:=Zoj N ops _ _ _ _ _ hg
theorem ZqR (c:Cx) (i:Nat) (ops:Array Oper) (d:Bool) (s:St):exS P h E c (.region i ops d) s=ZrI (Zvh P h E c.N (h.light c.fid i) (rgo (h.perm c.fid i) ops) s):=by
 show(ZmC P h E c.N (h.light c.fid i) (rgo (h.perm c.fid i) ops) s).map _=_
 show _=ZrI (ZmC P h E c.N (h.light c.fid i) (rgo (h.perm c.fid i) ops) s)
 cases ZmC P h E c.N (h.light c.fid i) (rgo (h.perm c.fid i) ops) s<;>rfl
noncomputable def Zur (P:Program) (h:Hints) (E:Ev) (N:Nat) (ls:List Nat) (l:List Oper) (i:Nat) (acc:List (Nat×Oper×List (Nat×PV)×PV)) (s:St):Option Unit→Option St
 |some _=>ZlU P h E N ls l i acc s
 |none=>none
noncomputable def ZsU (P:Program) (h:Hints) (E:Ev) (N:Nat) (ls:List Nat) (dst:Option Tmp) (l:List Oper) (i:Nat) (acc:List (Nat×Oper×List (Nat×PV)×PV)) (tm:List (Nat×PV)):ZjO→Option St
 |some x=>(Zeg N dst x.1 tm).bind fun tm'=>Zur P h E N ls l (i+1) acc ⟨tm',x.2⟩ (ZcO P h E acc x.2)
 |none=>none
noncomputable def Ztw (P:Program) (h:Hints) (E:Ev) (N:Nat) (ls:List Nat) (dst:Option Tmp) (o:Oper) (l:List Oper) (i:Nat) (acc:List (Nat×Oper×List (Nat×PV)×PV)) (tm:List (Nat×PV)) (H:List Mem):Option PV→Option St
 |some v=>(Zeg N dst v tm).bind fun tm'=>ZlU P h E N ls l (i+1) ((i,o,tm,v)::acc) ⟨tm',H⟩
 |none=>none
theorem Zno (ls:List Nat) (N:Nat) (dst:Option Tmp) (op:Op) (ty:TypeId) (pos:String) (after:Array Edge) (l:List Oper) (i:Nat) (acc:List (Nat×Oper×List (Nat×PV)×PV)) (tm:List (Nat×PV)) (H:List Mem) (hi:has i ls=false):ZlU P h E N ls (⟨dst,op,ty,pos,after,none⟩::l) i acc ⟨tm,H⟩=ZsU P h E N ls dst l i (ZbK h ⟨dst,op,ty,pos,after,none⟩ acc) tm (opE P h E H (ev tm) op):=by
 simp only[ZlU,hi,cond_false]
 cases opE P h E H (ev tm) op with
 |none=>rfl
 |some x=>
  simp only[Option.bind_some,ZsU]
  congr 1
  funext tm'
  cases ZcO P h E (ZbK h ⟨dst,op,ty,pos,after,none⟩ acc) x.2<;>rfl
theorem ZnK (ls:List Nat) (N:Nat) (dst:Option Tmp) (op:Op) (ty:TypeId) (pos:String) (after:Array Edge) (l:List Oper) (i:Nat) (acc:List (Nat×Oper×List (Nat×PV)×PV)) (tm:List (Nat×PV)) (H:List Mem) (hi:has i ls=true):ZlU P h E N ls (⟨dst,op,ty,pos,after,none⟩::l) i acc ⟨tm,H⟩=Ztw P h E N ls dst ⟨dst,op,ty,pos,after,none⟩ l i acc tm H (ZaM P h E H (ev tm) ⟨dst,op,ty,pos,after,none⟩):=by
 simp only[ZlU,hi,cond_true]
 cases ZaM P h E H (ev tm) ⟨dst,op,ty,pos,after,none⟩with
 |none=>rfl
 |some v=>rfl
noncomputable def Zmm (P:Program) (h:Hints) (E:Ev) (acc:List (Nat×Oper×List (Nat×PV)×PV)) (H:List Mem) (v:PV):Option PV→Option Unit
 |some u=>bif ZeG u v then ZcO P h E acc H else none
 |none=>none
theorem Znf (i:Nat) (o:Oper) (tm:List (Nat×PV)) (v:PV) (acc:List (Nat×Oper×List (Nat×PV)×PV)) (H:List Mem):ZcO P h E ((i,o,tm,v)::acc) H=Zmm P h E acc H v (ZaM P h E H (ev tm) o):=by
 show(ZaM P h E H (ev tm) o).bind (fun u=>bif ZeG u v then ZcO P h E acc H else none)=_
 cases ZaM P h E H (ev tm) o<;>rfl
theorem ZlB (acc:List (Nat×Oper×List (Nat×PV)×PV)) (H:List Mem) (u v:PV) (hs:ZeG u v=true):Zmm P h E acc H v (some u)=ZcO P h E acc H:=by
 simp only[Zmm,hs,cond_true]
theorem ZcK (v:Option PV):((val v).bind fun x=>match x with|(v,[],[])=>some v|_=>none)=v:=by cases v<;>rfl
section
variable (dst : Option Tmp) (ty : TypeId) (pos : String) (after : Array Edge) (g : Option (Nat × Bool))
theorem Zev (t:TypeId) (a:Operand):ZaM P h E H ρ ⟨dst, .load t a,ty,pos,after,g⟩=Zh9 P H t (ρ a):=ZcK _
theorem ZbR (t:TypeId) (x i:Operand):ZaM P h E H ρ ⟨dst, .indexAddr t x i,ty,pos,after,g⟩=Za9 P H t (ρ x) (ρ i):=ZcK _
theorem ZiH (x:Operand):ZaM P h E H ρ ⟨dst, .move x,ty,pos,after,g⟩=ρ x:=ZcK _
end
noncomputable def ZcX (r:Nat):Code→Option Code
 | .seq a b=>match ZcX r a with
  |some c=>some c
  |none=>ZcX r b
 | .cond _ a b=>match ZcX r a with
  |some c=>some c
  |none=>ZcX r b
 | .block _ b=>ZcX r b
 | .loop b=>bif Nat.beq (Zdv b) r then some b else ZcX r b
 | .scope b=>ZcX r b
 |_=>none
noncomputable def ZgG (f:Func):Code:=match f.body with|some c=>c|none=> .skip
noncomputable def ZaX (f:Func) (r:Nat):Code:=match ZcX r (ZgG f)with|some c=>c|none=> .skip
def Flat (v:PV):Prop:=ZdX v=[]∧Zcb v=true∧ ∀l,ren l v=v
theorem Zpd:Flat .nils:=⟨rfl,rfl,fun _=>rfl⟩
theorem Zqj (es:List (List PV)):Flat (.lst es):=⟨rfl,rfl,fun _=>rfl⟩
theorem Sl.flat {q:PV} {es:List (List PV)} (hq:Sl q es):Flat q:=by
 rcases hq with⟨rfl,_⟩|rfl
 ·exact Zpd
 ·exact Zqj _
end
end Go.Am
/-
 Rules for calls, for what is built, for strings and maps.
-/
namespace Go.Am
section
variable {P : Program} {h : Hints} {E : Ev} {H : List Mem} {ρ : Operand → Option PV}
theorem ZtX {s d:TypeId} (hs:(P.underlying s).isSome=true) (hd:P.underlying d=some .string) (k:IntKind) {n:Int} (h0:0≤n) (h1:n<128):Zcm P H s d (.int k n)=some (.str ⟨#[UInt8.ofNat n.toNat]⟩):=by
 unfold Zcm
 obtain⟨x,hx⟩:=Option.isSome_iff_exists.1 hs
 rw[hx,hd]
 cases x<;>simp[h0,h1]
theorem ZmR (b:Bool):exp ZaK H (.bool b)=some (.bool b):=rfl
def Plain (v:PV):Prop:= ∀n H,exp (n+1) H v=some v
theorem ZnN:Plain .nils:=fun _ _=>rfl
theorem Zpk (es:List (List PV)):Plain (.lst es):=fun _ _=>rfl
theorem Sl.plain {q:PV} {es:List (List PV)} (hq:Sl q es):Plain q:=by
 rcases hq with⟨rfl,_⟩|rfl
 ·exact ZnN
 ·exact Zpk _
theorem Plain.exp {v:PV} (hv:Plain v):exp ZaK H v=some v:=hv 39 H
theorem Sl.rch {q:PV} {es:List (List PV)} (hq:Sl q es):rch ZaK H q=[]:=by
 rcases hq with⟨rfl,_⟩|rfl<;>rfl
end
end Go.Am
/-
 Rules for own memory numbered anew.
-/
namespace Go.Am
section
variable {P : Program} {h : Hints} {E : Ev} {H : List Mem}
theorem Sl.ids {q:PV} {es:List (List PV)} (hq:Sl q es):ZdX q=[]∧Zcb q=true∧(∀l,ren l q=q)∧ZeK q=[]∧ZeI q=true∧(∀l,Znm l q=q)∧Zh7 q=true:=by
 rcases hq with⟨rfl,_⟩|rfl<;>exact⟨rfl,rfl,fun _=>rfl,rfl,rfl,fun _=>rfl,rfl⟩
theorem Flat.ids {v:PV} (hv:Flat v):ZdX v=[]∧Zcb v=true∧ ∀l,ren l v=v:=hv
end
end Go.Am
