/- The evaluator of the model's code on plain values, with its soundness and its walking rules (part 3). -/
import Derived.Test.YtapbiodcncnnfaaGreatDoorAmB
import Derived.IntWalk
set_option linter.all false
namespace Go.Am
noncomputable section
section
variable {P : Program} {h : Hints} {E : Ev} {H : List Mem} {ρ : Operand → Option PV} {N : Nat} {ds : List (Option Tmp)}
def ZqX (P:Program) (h:Hints) (E:Ev) (N:Nat) (ds:List (Option Tmp)) (dst:Option Tmp) (l:List Oper) (tm:List (Nat×PV)) (r:ZlE):Option St:=
 r.bind fun x=>(Zfg N dst x.1 tm).bind fun tm'=>ZdV P h E N ds l ⟨tm',x.2⟩
def ZAg (P:Program) (h:Hints) (E:Ev) (N:Nat) (ds:List (Option Tmp)) (dst:Option Tmp) (op:Op) (l:List Oper) (tm:List (Nat×PV)) (H:List Mem) (g:Option Bool):Option St:=
 g.bind fun b=>bif b then ZqX P h E N ds dst l tm (opE P h E H (ev tm) op)else ZqX P h E N ds dst l tm (some (.tup [],H))
theorem ZzJ (dst:Option Tmp) (op:Op) (ty:TypeId) (pos:String) (after:Array Edge) (l:List Oper) (tm:List (Nat×PV)):
 ZdV P h E N ds (⟨dst,op,ty,pos,after,none⟩::l) ⟨tm,H⟩=ZqX P h E N ds dst l tm (opE P h E H (ev tm) op):=by
 simp only[ZdV,ZqX]
 congr 1
 funext x
 cases Zfg N dst x.1 tm<;>rfl
theorem Zq6 (dst:Option Tmp) (op:Op) (ty:TypeId) (pos:String) (after:Array Edge) (j:Nat) (w:Bool) (l:List Oper) (tm:List (Nat×PV)):
 ZdV P h E N ds (⟨dst,op,ty,pos,after,some (j,w)⟩::l) ⟨tm,H⟩=ZAg P h E N ds dst op l tm H (want ds tm j w):=by
 simp only[ZdV,ZAg]
 congr 1
 funext b
 cases b with
 |false=>
  simp only[cond_false,ZqX,Xab]
  cases Zfg N dst (.tup []) tm<;>rfl
 |true=>
  simp only[cond_true,ZqX,Option.bind_assoc]
  congr 1
  funext x
  cases Zfg N dst x.1 tm<;>rfl
theorem Zq4 (dst:Option Tmp) (op:Op) (l:List Oper) (tm:List (Nat×PV)):ZAg P h E N ds dst op l tm H (some true)=ZqX P h E N ds dst l tm (opE P h E H (ev tm) op):=rfl
theorem Zkk (dst:Option Tmp) (op:Op) (l:List Oper) (tm:List (Nat×PV)):ZAg P h E N ds dst op l tm H (some false)=ZqX P h E N ds dst l tm (some (.tup [],H)):=rfl
def Zwm:Option St→Option (Ex×St)
 |some s=>some (.normal,s)
 |none=>none
def ZwN (w:Bool):Option PV→Option Bool
 |some (.bool b)=>some (b==w)
 |some (.tup [])=>some false
 |_=>none
theorem ZwP (j:Nat) (w:Bool) (tm:List (Nat×PV)):want ds tm j w=ZwN w (((ds[j]?).bind id).bind (get tm)):=by
 simp only[want]
 generalize((ds[j]?).bind id).bind (get tm)=x
 cases x with
 |none=>rfl
 |some v=>cases v<;>first
  |rfl
  |(rename_i vs;cases vs<;>rfl)
theorem ZzG (f:FuncId) (args:Array Operand) (ts:Array TypeId):opE P h E H ρ (.call ⟨.value (.func f),args,ts⟩)=(ZaV ρ args.toList).bind fun vs=>Zcu h E f vs H:=by
 show(if h.opn f then Zm0 h E H ρ f ⟨.value (.func f),args,ts⟩else ZiN H (ZeQ h E H H.length ρ f ⟨.value (.func f),args,ts⟩))=_
 cases j:h.opn f with
 |true=>rfl
 |false=>
  simp only[XaG,if_false,ZeQ,j,Zcu]
  cases ZaV ρ args.toList with
  |none=>rfl
  |some vs=>rfl
theorem Zan {x:Int} (j: -9223372036854775808≤x) (C:x≤9223372036854775807):IntKind.i64.wrap x=x:=by
 rw[IntKind.wrap_i64];omega
theorem ZoV {t:TypeId} {n:Nat} (j:Zq1 P t=some true) (C:Za1 P t=some n) (cs:List PV) (off:Nat) (hle:off+n≤cs.length):Zdd P t cs off=some (.agg ((cs.drop off).take n)):=by
 simp only[Zdd,j,C,Xab]
 rw[if_pos hle]
def Zno (P:Program) (h:Hints) (E:Ev) (N:Nat) (ls:List Nat):List Oper→Nat→List (Nat×Oper×List (Nat×PV)×PV)→St→Option St
 | [],_,_,s=>some s
 |⟨dst,op,ty,pos,after,none⟩::l,i,acc,s=>bif has i ls
  then(ZaK P h E s.hp (ev s.tm) ⟨dst,op,ty,pos,after,none⟩).bind fun v=>(Zfg N dst v s.tm).bind fun tm=>Zno P h E N ls l (i+1) ((i,⟨dst,op,ty,pos,after,none⟩,s.tm,v)::acc) ⟨tm,s.hp⟩
  else(opE P h E s.hp (ev s.tm) op).bind fun x=>(Zfg N dst x.1 s.tm).bind fun tm=>(Zdp P h E (Zb9 h ⟨dst,op,ty,pos,after,none⟩ acc) x.2).bind fun _=>Zno P h E N ls l (i+1) (Zb9 h ⟨dst,op,ty,pos,after,none⟩ acc) ⟨tm,x.2⟩
 |_::_,_,_,_=>none
def noG:List Oper→Bool
 | []=>true
 |⟨_,_,_,_,_,none⟩::l=>noG l
 |_::_=>false
theorem ZtJ (N:Nat) (ops:Array Oper) (ls:List Nat): ∀ (l:List Oper) (i:Nat) (acc:List (Nat×Oper×List (Nat×PV)×PV)) (s:St),noG l=true→Zbd P h E N ops ls l i acc s=Zno P h E N ls l i acc s
 | [],_,_,s,_=>rfl
 |⟨dst,op,ty,pos,after,some g⟩::l,i,acc,s,I=>by cases I
 |⟨dst,op,ty,pos,after,none⟩::l,i,acc,s,I=>by
  show(Zci P h E N ops ls i ⟨dst,op,ty,pos,after,none⟩ s).bind (fun J=>bif has i ls then(Zur P h E ops i ⟨dst,op,ty,pos,after,none⟩ s acc).bind fun C=>Zbd P h E N ops ls l (i+1) C J else(Zdp P h E (Zb9 h ⟨dst,op,ty,pos,after,none⟩ acc) J.hp).bind fun _=>Zbd P h E N ops ls l (i+1) (Zb9 h ⟨dst,op,ty,pos,after,none⟩ acc) J)=_
  have R:=fun j acc s=>ZtJ N ops ls l j acc s I
  cases hi:has i ls with
  |true=>
   simp only[Zno,Zci,hi,cond_true,Zsx,ZdM,Xab,Zur]
   cases U:ZaK P h E s.hp (ev s.tm) ⟨dst,op,ty,pos,after,none⟩with
   |none=>rfl
   |some v=>
    simp only[Xab,Xak]
    cases Zfg N dst v s.tm with
    |none=>rfl
    |some tm=>simp only[Xak,Xab];exact R _ _ _
  |false=>
   simp only[Zno,Zci,hi,cond_false,ZcV,ZdM,Xab,Zrf,cond_true]
   cases opE P h E s.hp (ev s.tm) op with
   |none=>rfl
   |some x=>
    simp only[Xab]
    cases Zfg N dst x.1 s.tm with
    |none=>rfl
    |some tm=>
     simp only[Xak,Xab]
     cases Zdp P h E (Zb9 h ⟨dst,op,ty,pos,after,none⟩ acc) x.2 with
     |none=>rfl
     |some _=>simp only[Xab];exact R _ _ _
def ZBo (P:Program) (h:Hints) (E:Ev) (N:Nat) (ls:List Nat) (ops:Array Oper) (s:St):Option St:=Zps P h E N ls ops s
theorem Zrw (N:Nat) (j:Nat) (ls:List Nat) (ops:Array Oper) (s:St) (C:noG ops.toList=true):ZBo P h E N (j::ls) ops s=Zno P h E N (j::ls) ops.toList 0 [] s:=ZtJ N ops _ _ _ _ _ C
theorem ZuH (c:Cx) (i:Nat) (ops:Array Oper) (d:Bool) (s:St):exS P h E c (.region i ops d) s=Zwm (ZBo P h E c.N (h.light c.fid i) (rgo (h.perm c.fid i) ops) s):=by
 show(Zps P h E c.N (h.light c.fid i) (rgo (h.perm c.fid i) ops) s).map _=_
 show _=Zwm (Zps P h E c.N (h.light c.fid i) (rgo (h.perm c.fid i) ops) s)
 cases Zps P h E c.N (h.light c.fid i) (rgo (h.perm c.fid i) ops) s<;>rfl
def Zzp (P:Program) (h:Hints) (E:Ev) (N:Nat) (ls:List Nat) (l:List Oper) (i:Nat) (acc:List (Nat×Oper×List (Nat×PV)×PV)) (s:St):Option Unit→Option St
 |some _=>Zno P h E N ls l i acc s
 |none=>none
def Zxr (P:Program) (h:Hints) (E:Ev) (N:Nat) (ls:List Nat) (dst:Option Tmp) (l:List Oper) (i:Nat) (acc:List (Nat×Oper×List (Nat×PV)×PV)) (tm:List (Nat×PV)):ZlE→Option St
 |some x=>(Zfg N dst x.1 tm).bind fun tm'=>Zzp P h E N ls l (i+1) acc ⟨tm',x.2⟩ (Zdp P h E acc x.2)
 |none=>none
def ZzD (P:Program) (h:Hints) (E:Ev) (N:Nat) (ls:List Nat) (dst:Option Tmp) (o:Oper) (l:List Oper) (i:Nat) (acc:List (Nat×Oper×List (Nat×PV)×PV)) (tm:List (Nat×PV)) (H:List Mem):Option PV→Option St
 |some v=>(Zfg N dst v tm).bind fun tm'=>Zno P h E N ls l (i+1) ((i,o,tm,v)::acc) ⟨tm',H⟩
 |none=>none
theorem Zqy (ls:List Nat) (N:Nat) (dst:Option Tmp) (op:Op) (ty:TypeId) (pos:String) (after:Array Edge) (l:List Oper) (i:Nat) (acc:List (Nat×Oper×List (Nat×PV)×PV)) (tm:List (Nat×PV)) (H:List Mem) (hi:has i ls=false):Zno P h E N ls (⟨dst,op,ty,pos,after,none⟩::l) i acc ⟨tm,H⟩=Zxr P h E N ls dst l i (Zb9 h ⟨dst,op,ty,pos,after,none⟩ acc) tm (opE P h E H (ev tm) op):=by
 simp only[Zno,hi,cond_false]
 cases opE P h E H (ev tm) op with
 |none=>rfl
 |some x=>
  simp only[Xab,Zxr]
  congr 1
  funext tm'
  cases Zdp P h E (Zb9 h ⟨dst,op,ty,pos,after,none⟩ acc) x.2<;>rfl
theorem Zqd (ls:List Nat) (N:Nat) (dst:Option Tmp) (op:Op) (ty:TypeId) (pos:String) (after:Array Edge) (l:List Oper) (i:Nat) (acc:List (Nat×Oper×List (Nat×PV)×PV)) (tm:List (Nat×PV)) (H:List Mem) (hi:has i ls=true):Zno P h E N ls (⟨dst,op,ty,pos,after,none⟩::l) i acc ⟨tm,H⟩=ZzD P h E N ls dst ⟨dst,op,ty,pos,after,none⟩ l i acc tm H (ZaK P h E H (ev tm) ⟨dst,op,ty,pos,after,none⟩):=by
 simp only[Zno,hi,cond_true]
 cases ZaK P h E H (ev tm) ⟨dst,op,ty,pos,after,none⟩with
 |none=>rfl
 |some v=>rfl
def ZpB (P:Program) (h:Hints) (E:Ev) (acc:List (Nat×Oper×List (Nat×PV)×PV)) (H:List Mem) (v:PV):Option PV→Option Unit
 |some u=>bif ZfC u v then Zdp P h E acc H else none
 |none=>none
theorem Zp5 (i:Nat) (o:Oper) (tm:List (Nat×PV)) (v:PV) (acc:List (Nat×Oper×List (Nat×PV)×PV)) (H:List Mem):Zdp P h E ((i,o,tm,v)::acc) H=ZpB P h E acc H v (ZaK P h E H (ev tm) o):=by
 show(ZaK P h E H (ev tm) o).bind (fun u=>bif ZfC u v then Zdp P h E acc H else none)=_
 cases ZaK P h E H (ev tm) o<;>rfl
theorem Zn7 (acc:List (Nat×Oper×List (Nat×PV)×PV)) (H:List Mem) (u v:PV) (j:ZfC u v=true):ZpB P h E acc H v (some u)=Zdp P h E acc H:=by
 simp only[ZpB,j,cond_true]
theorem ZcJ (v:Option PV):((val v).bind fun x=>match x with|(v,[],[])=>some v|_=>none)=v:=by cases v<;>rfl
section
variable (dst : Option Tmp) (ty : TypeId) (pos : String) (after : Array Edge) (g : Option (Nat × Bool))
theorem Zfo (t:TypeId) (a:Operand):ZaK P h E H ρ ⟨dst, .load t a,ty,pos,after,g⟩=Zjv P H t (ρ a):=ZcJ _
theorem Zco (t:TypeId) (x i:Operand):ZaK P h E H ρ ⟨dst, .indexAddr t x i,ty,pos,after,g⟩=Zbh P H t (ρ x) (ρ i):=ZcJ _
theorem ZjL (x:Operand):ZaK P h E H ρ ⟨dst, .move x,ty,pos,after,g⟩=ρ x:=ZcJ _
end
def Zdv (r:Nat):Code→Option Code
 | .seq a b=>match Zdv r a with
  |some c=>some c
  |none=>Zdv r b
 | .cond _ a b=>match Zdv r a with
  |some c=>some c
  |none=>Zdv r b
 | .block _ b=>Zdv r b
 | .loop b=>bif Nat.beq (Zdy b) r then some b else Zdv r b
 | .scope b=>Zdv r b
 |_=>none
def Zbn (f:Func):Code:=match f.body with|some c=>c|none=> .skip
def Za4 (f:Func) (r:Nat):Code:=match Zdv r (Zbn f)with|some c=>c|none=> .skip
def Flat (v:PV):Prop:=ZcI v=[]∧ZbC v=true∧ ∀l,ren l v=v
theorem ZsP:Flat .nils:=⟨rfl,rfl,fun _=>rfl⟩
theorem Zva (es:List (List PV)):Flat (.lst es):=⟨rfl,rfl,fun _=>rfl⟩
theorem Sl.flat {q:PV} {es:List (List PV)} (j:Sl q es):Flat q:=by
 rcases j with⟨rfl,_⟩|rfl
 ·exact ZsP
 ·exact Zva _
end
section
variable {P : Program} {h : Hints} {E : Ev} {H : List Mem} {ρ : Operand → Option PV}
theorem Zzn {s d:TypeId} (j:(P.underlying s).isSome=true) (C:P.underlying d=some .string) (k:IntKind) {n:Int} (I:0≤n) (J:n<128):ZcY P H s d (.int k n)=some (.str ⟨#[UInt8.ofNat n.toNat]⟩):=by
 unfold ZcY
 obtain⟨x,R⟩:=Option.isSome_iff_exists.1 j
 rw[R,C]
 cases x<;>simp[I,J]
theorem ZpJ (b:Bool):exp ZaL H (.bool b)=some (.bool b):=rfl
def Plain (v:PV):Prop:= ∀n H,exp (n+1) H v=some v
theorem Zqm:Plain .nils:=fun _ _=>rfl
theorem ZsC (es:List (List PV)):Plain (.lst es):=fun _ _=>rfl
theorem Sl.plain {q:PV} {es:List (List PV)} (j:Sl q es):Plain q:=by
 rcases j with⟨rfl,_⟩|rfl
 ·exact Zqm
 ·exact ZsC _
theorem Plain.exp {v:PV} (j:Plain v):exp ZaL H v=some v:=j 39 H
theorem Sl.rch {q:PV} {es:List (List PV)} (j:Sl q es):rch ZaL H q=[]:=by
 rcases j with⟨rfl,_⟩|rfl<;>rfl
end
section
variable {P : Program} {h : Hints} {E : Ev} {H : List Mem}
def Zo4 (tm:List (Nat×PV)) (H:List Mem) (ids:List Nat):Option St:=
 if tm.all (fun x=>ZbC x.2)=true then
  (ZaV (fun i=>(H[i]?).bind fun m=>if(okM m&&(Zm3 m).all ids.contains)=true then some (Znv ids m)else none) ids).map fun H'=>⟨tm.map fun x=>(x.1,ren ids x.2),H'⟩
 else none
def ZAC (tm:List (Nat×PV)):List Nat:=(tm.flatMap fun x=>ZcI x.2).foldl Zcj []
def ZeS (H:List Mem) (ids:List Nat):List Nat:=(ids.flatMap (ZnX H)).foldl Zcj ids
theorem ZnM (tm:List (Nat×PV)):Zeb tm H=Zo4 tm H (ZeS H (ZeS H (ZeS H (ZAC tm)))):=rfl
def ZAq:Option Mem→List Nat
 |some m=>Zm3 m
 |none=> []
theorem Zus (i:Nat):ZnX H i=ZAq H[i]? :=by
 unfold ZnX ZAq
 cases H[i]? <;>rfl
theorem ZtO (m:Mem):ZAq (some m)=Zm3 m:=rfl
theorem Zgy {m:Mem} (hm:ZfR m=true):Zm3 m=[]:=by simp[Zm3,hm]
theorem ZkM {m:Mem} (hm:ZfR m=true):okM m=true:=by simp[okM,hm]
theorem Zi6 {m:Mem} (hm:ZfR m=true) (l:List Nat):Znv l m=m:=by simp[Znv,hm]
theorem Zs1 (es:List (List PV)) (z:Nat) (m:Bool):ZfR (.row es z m)=es.all fun c=>c.all ZgP:=rfl
theorem Zse {es:List (List PV)} (he: ∀c∈es,∀v∈c,ZgP v=true) (z:Nat) (m:Bool):ZfR (.row es z m)=true:=by
 rw[Zs1,Xau]
 exact fun c j=>Xau.2 (he c j)
theorem Sl.ids {q:PV} {es:List (List PV)} (j:Sl q es):ZcI q=[]∧ZbC q=true∧(∀l,ren l q=q)∧Zcq q=[]∧ZdF q=true∧(∀l,ZjQ l q=q)∧ZgP q=true:=by
 rcases j with⟨rfl,_⟩|rfl<;>exact⟨rfl,rfl,fun _=>rfl,rfl,rfl,fun _=>rfl,rfl⟩
theorem Flat.ids {v:PV} (j:Flat v):ZcI v=[]∧ZbC v=true∧ ∀l,ren l v=v:=j
end
open Go.RowKit
section
variable [Laid] {P : Program} {h : Hints} {E : Ev}
end
section
variable [Laid] {P : Program} {h : Hints}
def withPrims (h:Hints) (p:FuncId→Option (List PV→Option PV)):Hints:={h with prim:=p}
variable {p : FuncId → Option (List PV → Option PV)}
theorem Zie (ls:List Nat): ∀ (os:List Oper) (i:Nat),Zjp (withPrims h p) ls os i=Zjp h ls os i
 | [],_=>rfl
 |o::os,i=>by
  simp only[Zjp,Zie ls os]
  rfl
theorem Zmb (ls:List Nat) (ops:Array Oper):Zf4 (withPrims h p) ls ops=Zf4 h ls ops:=by
 simp only[Zf4,Zie]
 rfl
theorem ZbJ (f:FuncId): ∀c:Code,Zbk (withPrims h p) f c=Zbk h f c
 | .region _ _ _=>by simp only[Zbk,Zmb];rfl
 | .seq a b=>by simp only[Zbk,ZbJ f a,ZbJ f b]
 | .cond _ a b=>by simp only[Zbk,ZbJ f a,ZbJ f b]
 | .block _ b=>by simp only[Zbk,ZbJ f b]
 | .loop b=>by simp only[Zbk,ZbJ f b]
 | .skip| .label _| .exit _| .ret| .goto _| .refuse _| .rangeFunc _ _ _ _| .scope _=>rfl
theorem Znt (f:FuncId):Zkw P (withPrims h p) f=Zkw P h f:=by
 simp only[Zkw,ZbJ]
theorem ZhD (j:Static P h) (hp: ∀f,(p f).isSome=true→Zwv P f):Static P (withPrims h p):=
 ⟨j.mixed,fun f C=>by rw[Znt];exact j.fns f C,hp⟩
end
end
end Go.Am
