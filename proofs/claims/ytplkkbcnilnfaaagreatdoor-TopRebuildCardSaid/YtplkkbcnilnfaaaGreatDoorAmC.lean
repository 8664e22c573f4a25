/- The evaluator of the model's code on plain values, with its soundness and its walking rules (part 3). -/
import Derived.Test.YtplkkbcnilnfaaaGreatDoorAmB
import Derived.IntWalk
set_option linter.all false
namespace Go.Am
noncomputable section
section
variable {P:Program} {h:Hints} {E:Ev} {H:List Mem} {ρ:Operand->Option PV} {N:Nat} {ds:List (Option Tmp)}
def Zu1 (P:Program) (h:Hints) (E:Ev) (N:Nat) (ds:List (Option Tmp)) (dst:Option Tmp) (l:List Oper) (tm:List (Nat×PV)) (r:Zn0):Option St:=
 r.bind λx=>(Zf2 N dst x.1 tm).bind λtm'=>ZeV P h E N ds l ⟨tm',x.2⟩
def ZHj (P:Program) (h:Hints) (E:Ev) (N:Nat) (ds:List (Option Tmp)) (dst:Option Tmp) (op:Op) (l:List Oper) (tm:List (Nat×PV)) (H:List Mem) (g:Option Bool):Option St:=
 g.bind λb=>bif b then Zu1 P h E N ds dst l tm (opE P h E H (ev tm) op)else Zu1 P h E N ds dst l tm (some (.tup [],H))
def ZGM (dst:Option Tmp) (op:Op) (ty:TypeId) (pos:String) (after:Array Edge) (l:List Oper) (tm:List (Nat×PV)):
 ZeV P h E N ds (⟨dst,op,ty,pos,after,none⟩::l) ⟨tm,H⟩=Zu1 P h E N ds dst l tm (opE P h E H (ev tm) op):=by simp only[ZeV,Zu1];congr 1;funext x;cases Zf2 N dst x.1 tm<;>rfl
def Zwy (dst:Option Tmp) (op:Op) (ty:TypeId) (pos:String) (after:Array Edge) (j:Nat) (w:Bool) (l:List Oper) (tm:List (Nat×PV)):
 ZeV P h E N ds (⟨dst,op,ty,pos,after,some (j,w)⟩::l) ⟨tm,H⟩=ZHj P h E N ds dst op l tm H (want ds tm j w):=by simp only[ZeV,ZHj];congr 1;funext b;cases b with|false=>simp only[cond_false,Zu1,Xaa];cases Zf2 N dst (.tup []) tm<;>rfl|true=>simp only[cond_true,Zu1,Option.bind_assoc];congr 1;funext x;cases Zf2 N dst x.1 tm<;>rfl
def Zvp (dst:Option Tmp) (op:Op) (l:List Oper) (tm:List (Nat×PV)):ZHj P h E N ds dst op l tm H (some true)=Zu1 P h E N ds dst l tm (opE P h E H (ev tm) op):=rfl
def Zma (dst:Option Tmp) (op:Op) (l:List Oper) (tm:List (Nat×PV)):ZHj P h E N ds dst op l tm H (some false)=Zu1 P h E N ds dst l tm (some (.tup [],H)):=rfl
def ZBI:Option St->Option (Ex×St)
 |some s=>some (.normal,s)
 |none=>none
def ZDB (w:Bool):Option PV->Option Bool
 |some (.bool b)=>some (b==w)
 |some (.tup [])=>some false
 |_=>none
def ZEg (j:Nat) (w:Bool) (tm:List (Nat×PV)):want ds tm j w=ZDB w (((ds[j]?).bind id).bind (get tm)):=by
 simp only[want];generalize((ds[j]?).bind id).bind (get tm)=x;cases x with
 |none=>rfl
 |some v=>cases v<;>first
  |rfl
  |(rename_i vs;cases vs<;>rfl)
def ZEK (f:FuncId) (args:Array Operand) (ts:Array TypeId):opE P h E H ρ (.call ⟨.value (.func f),args,ts⟩)=(Za4 ρ args.toList).bind λvs=>ZcZ h E f vs H:=by show(if h.opn f then Zob h E H ρ f ⟨.value (.func f),args,ts⟩else ZeI H (ZfM h E H H.length ρ f ⟨.value (.func f),args,ts⟩))=_;cases j:h.opn f with|true=>rfl|false=>simp only[XaO,if_false,ZfM,j,ZcZ];cases Za4 ρ args.toList with|none=>rfl|some vs=>rfl
def Zat {x:Int} (j: -9223372036854775808<=x) (C:x<=9223372036854775807):IntKind.i64.wrap x=x:=by rw[IntKind.wrap_i64];omega
def ZrD {t:TypeId} {n:Nat} (j:ZuW P t=some true) (C:Zbe P t=some n) (cs:List PV) (off:Nat) (hle:off+n<=cs.length):ZdU P t cs off=some (.agg ((cs.drop off).take n)):=by simp only[ZdU,j,C,Xaa];rw[if_pos hle]
def Zrj (P:Program) (h:Hints) (E:Ev) (N:Nat) (ls:List Nat):List Oper->Nat->List (Nat×Oper×List (Nat×PV)×PV)->St->Option St
 | [],_,_,s=>some s
 |⟨dst,op,ty,pos,after,none⟩::l,i,acc,s=>bif has i ls
  then(ZaR P h E s.hp (ev s.tm) ⟨dst,op,ty,pos,after,none⟩).bind λv=>(Zf2 N dst v s.tm).bind λtm=>Zrj P h E N ls l (i+1) ((i,⟨dst,op,ty,pos,after,none⟩,s.tm,v)::acc) ⟨tm,s.hp⟩
  else(opE P h E s.hp (ev s.tm) op).bind λx=>(Zf2 N dst x.1 s.tm).bind λtm=>(ZdY P h E (Zcw h ⟨dst,op,ty,pos,after,none⟩ acc) x.2).bind λ_=>Zrj P h E N ls l (i+1) (Zcw h ⟨dst,op,ty,pos,after,none⟩ acc) ⟨tm,x.2⟩
 |_::_,_,_,_=>none
def noG:List Oper->Bool
 | []=>true
 |⟨_,_,_,_,_,none⟩::l=>noG l
 |_::_=>false
def ZxQ (N:Nat) (ops:Array Oper) (ls:List Nat): ∀ (l:List Oper) (i:Nat) (acc:List (Nat×Oper×List (Nat×PV)×PV)) (s:St),noG l=true->Zbv P h E N ops ls l i acc s=Zrj P h E N ls l i acc s
 | [],_,_,s,_=>rfl
 |⟨dst,op,ty,pos,after,some g⟩::l,i,acc,s,I=>by cases I
 |⟨dst,op,ty,pos,after,none⟩::l,i,acc,s,I=>by show(Zhd P h E N ops ls i ⟨dst,op,ty,pos,after,none⟩ s).bind (λJ=>bif has i ls then(ZzM P h E ops i ⟨dst,op,ty,pos,after,none⟩ s acc).bind λC=>Zbv P h E N ops ls l (i+1) C J else(ZdY P h E (Zcw h ⟨dst,op,ty,pos,after,none⟩ acc) J.hp).bind λ_=>Zbv P h E N ops ls l (i+1) (Zcw h ⟨dst,op,ty,pos,after,none⟩ acc) J)=_;have R:=λj acc s=>ZxQ N ops ls l j acc s I;cases hi:has i ls with|true=>(simp only[Zrj,Zhd,hi,cond_true,ZxS,Zeq,Xaa,ZzM];cases U:ZaR P h E s.hp (ev s.tm) ⟨dst,op,ty,pos,after,none⟩with|none=>rfl|some v=>simp only[Xaa,Xal];cases Zf2 N dst v s.tm with|none=>rfl|some tm=>simp only[Xal,Xaa];exact R _ _ _)|false=>simp only[Zrj,Zhd,hi,cond_false,Zdr,Zeq,Xaa,ZwM,cond_true];cases opE P h E s.hp (ev s.tm) op with|none=>rfl|some x=>simp only[Xaa];cases Zf2 N dst x.1 s.tm with|none=>rfl|some tm=>simp only[Xal,Xaa];cases ZdY P h E (Zcw h ⟨dst,op,ty,pos,after,none⟩ acc) x.2 with|none=>rfl|some _=>simp only[Xaa];exact R _ _ _
def ZI4 (P:Program) (h:Hints) (E:Ev) (N:Nat) (ls:List Nat) (ops:Array Oper) (s:St):Option St:=ZsP P h E N ls ops s
def Zwb (N:Nat) (j:Nat) (ls:List Nat) (ops:Array Oper) (s:St) (C:noG ops.toList=true):ZI4 P h E N (j::ls) ops s=Zrj P h E N (j::ls) ops.toList 0 [] s:=ZxQ N ops _ _ _ _ _ C
def ZzO (c:Cx) (i:Nat) (ops:Array Oper) (d:Bool) (s:St):exS P h E c (.region i ops d) s=ZBI (ZI4 P h E c.N (h.light c.fid i) (rgo (h.perm c.fid i) ops) s):=by show(ZsP P h E c.N (h.light c.fid i) (rgo (h.perm c.fid i) ops) s).map _=_;show _=ZBI (ZsP P h E c.N (h.light c.fid i) (rgo (h.perm c.fid i) ops) s);cases ZsP P h E c.N (h.light c.fid i) (rgo (h.perm c.fid i) ops) s<;>rfl
def ZG6 (P:Program) (h:Hints) (E:Ev) (N:Nat) (ls:List Nat) (l:List Oper) (i:Nat) (acc:List (Nat×Oper×List (Nat×PV)×PV)) (s:St):Option Unit->Option St
 |some _=>Zrj P h E N ls l i acc s
 |none=>none
def ZD5 (P:Program) (h:Hints) (E:Ev) (N:Nat) (ls:List Nat) (dst:Option Tmp) (l:List Oper) (i:Nat) (acc:List (Nat×Oper×List (Nat×PV)×PV)) (tm:List (Nat×PV)):Zn0->Option St
 |some x=>(Zf2 N dst x.1 tm).bind λtm'=>ZG6 P h E N ls l (i+1) acc ⟨tm',x.2⟩ (ZdY P h E acc x.2)
 |none=>none
def ZFc (P:Program) (h:Hints) (E:Ev) (N:Nat) (ls:List Nat) (dst:Option Tmp) (o:Oper) (l:List Oper) (i:Nat) (acc:List (Nat×Oper×List (Nat×PV)×PV)) (tm:List (Nat×PV)) (H:List Mem):Option PV->Option St
 |some v=>(Zf2 N dst v tm).bind λtm'=>Zrj P h E N ls l (i+1) ((i,o,tm,v)::acc) ⟨tm',H⟩
 |none=>none
def ZuI (ls:List Nat) (N:Nat) (dst:Option Tmp) (op:Op) (ty:TypeId) (pos:String) (after:Array Edge) (l:List Oper) (i:Nat) (acc:List (Nat×Oper×List (Nat×PV)×PV)) (tm:List (Nat×PV)) (H:List Mem) (hi:has i ls=false):Zrj P h E N ls (⟨dst,op,ty,pos,after,none⟩::l) i acc ⟨tm,H⟩=ZD5 P h E N ls dst l i (Zcw h ⟨dst,op,ty,pos,after,none⟩ acc) tm (opE P h E H (ev tm) op):=by simp only[Zrj,hi,cond_false];cases opE P h E H (ev tm) op with|none=>rfl|some x=>simp only[Xaa,ZD5];congr 1;funext tm';cases ZdY P h E (Zcw h ⟨dst,op,ty,pos,after,none⟩ acc) x.2<;>rfl
def ZuN (ls:List Nat) (N:Nat) (dst:Option Tmp) (op:Op) (ty:TypeId) (pos:String) (after:Array Edge) (l:List Oper) (i:Nat) (acc:List (Nat×Oper×List (Nat×PV)×PV)) (tm:List (Nat×PV)) (H:List Mem) (hi:has i ls=true):Zrj P h E N ls (⟨dst,op,ty,pos,after,none⟩::l) i acc ⟨tm,H⟩=ZFc P h E N ls dst ⟨dst,op,ty,pos,after,none⟩ l i acc tm H (ZaR P h E H (ev tm) ⟨dst,op,ty,pos,after,none⟩):=by simp only[Zrj,hi,cond_true];cases ZaR P h E H (ev tm) ⟨dst,op,ty,pos,after,none⟩with|none=>rfl|some v=>rfl
def ZrB (P:Program) (h:Hints) (E:Ev) (acc:List (Nat×Oper×List (Nat×PV)×PV)) (H:List Mem) (v:PV):Option PV->Option Unit
 |some u=>bif ZgE u v then ZdY P h E acc H else none
 |none=>none
def Zuz (i:Nat) (o:Oper) (tm:List (Nat×PV)) (v:PV) (acc:List (Nat×Oper×List (Nat×PV)×PV)) (H:List Mem):ZdY P h E ((i,o,tm,v)::acc) H=ZrB P h E acc H v (ZaR P h E H (ev tm) o):=by show(ZaR P h E H (ev tm) o).bind (λu=>bif ZgE u v then ZdY P h E acc H else none)=_;cases ZaR P h E H (ev tm) o<;>rfl
def Zqa (acc:List (Nat×Oper×List (Nat×PV)×PV)) (H:List Mem) (u v:PV) (j:ZgE u v=true):ZrB P h E acc H v (some u)=ZdY P h E acc H:=by simp only[ZrB,j,cond_true]
def Zcn (v:Option PV):((val v).bind λx=>match x with|(v,[],[])=>some v|_=>none)=v:=by cases v<;>rfl
section
variable (dst:Option Tmp) (ty:TypeId) (pos:String) (after:Array Edge) (g:Option (Nat × Bool))
def Zga (t:TypeId) (a:Operand):ZaR P h E H ρ ⟨dst, .load t a,ty,pos,after,g⟩=Zlg P H t (ρ a):=Zcn _
def ZbO (t:TypeId) (x i:Operand):ZaR P h E H ρ ⟨dst, .indexAddr t x i,ty,pos,after,g⟩=Za5 P H t (ρ x) (ρ i):=Zcn _
def Zmd (x:Operand):ZaR P h E H ρ ⟨dst, .move x,ty,pos,after,g⟩=ρ x:=Zcn _
end
def Zd9 (r:Nat):Code->Option Code
 | .seq a b=>match Zd9 r a with
  |some c=>some c
  |none=>Zd9 r b
 | .cond _ a b=>match Zd9 r a with
  |some c=>some c
  |none=>Zd9 r b
 | .block _ b=>Zd9 r b
 | .loop b=>bif Nat.beq (Zdu b) r then some b else Zd9 r b
 | .scope b=>Zd9 r b
 |_=>none
def bodyOf (f:Func):Code:=match f.body with|some c=>c|none=> .skip
def Za6 (f:Func) (r:Nat):Code:=match Zd9 r (bodyOf f)with|some c=>c|none=> .skip
def Flat (v:PV):Prop:=Zb8 v=[]/\ZbA v=true/\ ∀l,ren l v=v
def Zxa:Flat .nils:=⟨rfl,rfl,λ_=>rfl⟩
def ZAx (es:List (List PV)):Flat (.lst es):=⟨rfl,rfl,λ_=>rfl⟩
def Sl.flat {q:PV} {es:List (List PV)} (j:Sl q es):Flat q:=by rcases j with⟨rfl,_⟩|rfl;exact Zxa;exact ZAx _
end
section
variable {P:Program} {h:Hints} {E:Ev} {H:List Mem} {ρ:Operand->Option PV}
def ZE5 {s d:TypeId} (j:(P.underlying s).isSome=true) (hd:P.underlying d=some .string) (k:IntKind) {n:Int} (C:0<=n) (I:n<128):Zdp P H s d (.int k n)=some (.str ⟨#[UInt8.ofNat n.toNat]⟩):=by unfold Zdp;obtain⟨x,J⟩:=Option.isSome_iff_exists.1 j;rw[J,hd];cases x<;>simp[C,I]
def Zr9 (b:Bool):exp ZaP H (.bool b)=some (.bool b):=rfl
def Plain (v:PV):Prop:= ∀n H,exp (n+1) H v=some v
def ZuQ:Plain .nils:=λ_ _=>rfl
def ZwU (es:List (List PV)):Plain (.lst es):=λ_ _=>rfl
def Sl.plain {q:PV} {es:List (List PV)} (j:Sl q es):Plain q:=by rcases j with⟨rfl,_⟩|rfl;exact ZuQ;exact ZwU _
def Plain.exp {v:PV} (j:Plain v):exp ZaP H v=some v:=j 39 H
def Sl.rch {q:PV} {es:List (List PV)} (j:Sl q es):rch ZaP H q=[]:=by rcases j with⟨rfl,_⟩|rfl<;>rfl
end
section
variable {P:Program} {h:Hints} {E:Ev} {H:List Mem}
def ZnV (tm:List (Nat×PV)) (H:List Mem) (ids:List Nat):Option St:=
 if tm.all (λx=>ZbA x.2)=true then
  (Za4 (λi=>(H[i]?).bind λm=>if(okM m&&(ZmR m).all ids.contains)=true then some (Zns ids m)else none) ids).map λH'=>⟨tm.map λx=>(x.1,ren ids x.2),H'⟩
 else none
def ZFD (tm:List (Nat×PV)):List Nat:=(tm.flatMap λx=>Zb8 x.2).foldl Zb6 []
def Zdf (H:List Mem) (ids:List Nat):List Nat:=(ids.flatMap (ZmE H)).foldl Zb6 ids
def ZkZ (tm:List (Nat×PV)):Zer tm H=ZnV tm H (Zdf H (Zdf H (Zdf H (ZFD tm)))):=rfl
def ZIz:Option Mem->List Nat
 |some m=>ZmR m
 |none=> []
def Znp (i:Nat):ZmE H i=ZIz H[i]? :=by unfold ZmE ZIz;cases H[i]? <;>rfl
def Zk6 (m:Mem):ZIz (some m)=ZmR m:=rfl
def Zfx {m:Mem} (hm:Zgz m=true):ZmR m=[]:=by simp[ZmR,hm]
def Zmw {m:Mem} (hm:Zgz m=true):okM m=true:=by simp[okM,hm]
def Zj6 {m:Mem} (hm:Zgz m=true) (l:List Nat):Zns l m=m:=by simp[Zns,hm]
def ZxY (es:List (List PV)) (z:Nat) (m:Bool):Zgz (.row es z m)=es.all λc=>c.all Zgw:=rfl
def Zyx {es:List (List PV)} (he: ∀c∈es,∀v∈c,Zgw v=true) (z:Nat) (m:Bool):Zgz (.row es z m)=true:=by rw[ZxY,Xaw];exact λc j=>Xaw.2 (he c j)
def Sl.ids {q:PV} {es:List (List PV)} (j:Sl q es):Zb8 q=[]/\ZbA q=true/\(∀l,ren l q=q)/\Zcz q=[]/\Zen q=true/\(∀l,Zlo l q=q)/\Zgw q=true:=by rcases j with⟨rfl,_⟩|rfl<;>exact⟨rfl,rfl,λ_=>rfl,rfl,rfl,λ_=>rfl,rfl⟩
def Flat.ids {v:PV} (j:Flat v):Zb8 v=[]/\ZbA v=true/\ ∀l,ren l v=v:=j
end
open Go.RowKit
section
variable [Laid] {P:Program} {h:Hints} {E:Ev}
end
section
variable [Laid] {P:Program} {h:Hints}
def withPrims (h:Hints) (p:FuncId->Option (List PV->Option PV)):Hints:={h with prim:=p}
variable {p:FuncId->Option (List PV->Option PV)}
def ZkC (ls:List Nat): ∀ (os:List Oper) (i:Nat),ZkI (withPrims h p) ls os i=ZkI h ls os i
 | [],_=>rfl
 |o::os,i=>by simp only[ZkI,ZkC ls os];rfl
def ZoD (ls:List Nat) (ops:Array Oper):ZhY (withPrims h p) ls ops=ZhY h ls ops:=by simp only[ZhY,ZkC];rfl
def Zca (f:FuncId): ∀c:Code,Zbq (withPrims h p) f c=Zbq h f c
 | .region _ _ _=>by simp only[Zbq,ZoD];rfl
 | .seq a b=>by simp only[Zbq,Zca f a,Zca f b]
 | .cond _ a b=>by simp only[Zbq,Zca f a,Zca f b]
 | .block _ b=>by simp only[Zbq,Zca f b]
 | .loop b=>by simp only[Zbq,Zca f b]
 | .skip| .label _| .exit _| .ret| .goto _| .refuse _| .rangeFunc _ _ _ _| .scope _=>rfl
def Zp9 (f:FuncId):ZmV P (withPrims h p) f=ZmV P h f:=by simp only[ZmV,Zca]
def ZfE (hS:Static P h) (hp: ∀f,(p f).isSome=true->ZBi P f):Static P (withPrims h p):=
 ⟨hS.mixed,λf hf=>by rw[Zp9];exact hS.fns f hf,hp⟩
end
end
end Go.Am
