/- The evaluator of the model's code on plain values, with its soundness and its walking rules (part 3). -/
import Derived.Test.YtpdhpbldangmbaaGreatDoorAmB
import Derived.IntWalk
set_option linter.all false
namespace Go.Am
noncomputable section
section
variable {P:Program} {h:Hints} {E:Ev} {H:List Mem} {ρ:Operand->Option PV} {N:Nat} {ds:List (Option Tmp)}
def ZwU (P:Program) (h:Hints) (E:Ev) (N:Nat) (ds:List (Option Tmp)) (dst:Option Tmp) (l:List Oper) (tm:List (Nat×PV)) (r:Zo7):Option St:=
 r.bind λx=>(ZgX N dst x.1 tm).bind λtm'=>Ze0 P h E N ds l ⟨tm',x.2⟩
def ZKx (P:Program) (h:Hints) (E:Ev) (N:Nat) (ds:List (Option Tmp)) (dst:Option Tmp) (op:Op) (l:List Oper) (tm:List (Nat×PV)) (H:List Mem) (g:Option Bool):Option St:=
 g.bind λb=>bif b then ZwU P h E N ds dst l tm (opE P h E H (ev tm) op)else ZwU P h E N ds dst l tm (some (.tup [],H))
def ZHJ (dst:Option Tmp) (op:Op) (ty:TypeId) (pos:String) (after:Array Edge) (l:List Oper) (tm:List (Nat×PV)):
 Ze0 P h E N ds (⟨dst,op,ty,pos,after,none⟩::l) ⟨tm,H⟩=ZwU P h E N ds dst l tm (opE P h E H (ev tm) op):=by simp[Ze0,ZwU];congr 1;funext x;cases ZgX N dst x.1 tm<;>rfl
def Zxa (dst:Option Tmp) (op:Op) (ty:TypeId) (pos:String) (after:Array Edge) (j:Nat) (w:Bool) (l:List Oper) (tm:List (Nat×PV)):
 Ze0 P h E N ds (⟨dst,op,ty,pos,after,some (j,w)⟩::l) ⟨tm,H⟩=ZKx P h E N ds dst op l tm H (want ds tm j w):=by simp[Ze0,ZKx];congr 1;funext b;cases b with|false=>simp[cond_false,ZwU,Xad];cases ZgX N dst (.tup []) tm<;>rfl|true=>simp[cond_true,ZwU,Option.bind_assoc];congr 1;funext x;cases ZgX N dst x.1 tm<;>rfl
def ZAi (dst:Option Tmp) (op:Op) (l:List Oper) (tm:List (Nat×PV)):ZKx P h E N ds dst op l tm H (some true)=ZwU P h E N ds dst l tm (opE P h E H (ev tm) op):=rfl
def Zni (dst:Option Tmp) (op:Op) (l:List Oper) (tm:List (Nat×PV)):ZKx P h E N ds dst op l tm H (some false)=ZwU P h E N ds dst l tm (some (.tup [],H)):=rfl
def ZEN:Option St->Option (Ex×St)
 |some s=>some (.normal,s)
 |none=>none
def ZFE (w:Bool):Option PV->Option Bool
 |some (.bool b)=>some (b==w)
 |some (.tup [])=>some false
 |_=>none
def ZGH (j:Nat) (w:Bool) (tm:List (Nat×PV)):want ds tm j w=ZFE w (((ds[j]?).bind id).bind (get tm)):=by
 simp[want];generalize((ds[j]?).bind id).bind (get tm)=x;cases x with
 |none=>rfl
 |some v=>cases v<;>first
  |rfl
  |(rename_i vs;cases vs<;>rfl)
def ZIQ (f:FuncId) (args:Array Operand) (ts:Array TypeId):opE P h E H ρ (.call ⟨.value (.func f),args,ts⟩)=(Za3 ρ args.toList).bind λvs=>Zdv h E f vs H:=by show(if h.opn f then Zra h E H ρ f ⟨.value (.func f),args,ts⟩else Zj6 H (Zic h E H H.length ρ f ⟨.value (.func f),args,ts⟩))=_;cases ho:h.opn f with|true=>rfl|false=>simp[Xbh,if_false,Zic,ho,Zdv];cases Za3 ρ args.toList with|none=>rfl|some vs=>rfl
theorem Zap {x:Int} (j: -9223372036854775808<=x) (C:x<=9223372036854775807):IntKind.i64.wrap x=x:=by rw[IntKind.wrap_i64];omega
def ZuH {t:TypeId} {n:Nat} (j:ZAU P t=some true) (hn:Zbi P t=some n) (cs:List PV) (off:Nat) (hle:off+n<=cs.length):Zed P t cs off=some (.agg ((cs.drop off).take n)):=by grind [Zed]
def ZsL (P:Program) (h:Hints) (E:Ev) (N:Nat) (ls:List Nat):List Oper->Nat->List (Nat×Oper×List (Nat×PV)×PV)->St->Option St
 | [],_,_,s=>some s
 |⟨dst,op,ty,pos,after,none⟩::l,i,acc,s=>bif has i ls
  then(ZaU P h E s.hp (ev s.tm) ⟨dst,op,ty,pos,after,none⟩).bind λv=>(ZgX N dst v s.tm).bind λtm=>ZsL P h E N ls l (i+1) ((i,⟨dst,op,ty,pos,after,none⟩,s.tm,v)::acc) ⟨tm,s.hp⟩
  else(opE P h E s.hp (ev s.tm) op).bind λx=>(ZgX N dst x.1 s.tm).bind λtm=>(Zfo P h E (ZcW h ⟨dst,op,ty,pos,after,none⟩ acc) x.2).bind λ_=>ZsL P h E N ls l (i+1) (ZcW h ⟨dst,op,ty,pos,after,none⟩ acc) ⟨tm,x.2⟩
 |_::_,_,_,_=>none
def noG:List Oper->Bool
 | []=>true
 |⟨_,_,_,_,_,none⟩::l=>noG l
 |_::_=>false
def Zyl N ops ls: ∀ (l:List Oper) (i:Nat) (acc:List (Nat×Oper×List (Nat×PV)×PV)) (s:St),noG l=true->ZbH P h E N ops ls l i acc s=ZsL P h E N ls l i acc s
 | [],_,_,s,_=>rfl
 |⟨dst,op,ty,pos,after,some g⟩::l,i,acc,s,I=>by cases I
 |⟨dst,op,ty,pos,after,none⟩::l,i,acc,s,I=>by show(ZiX P h E N ops ls i ⟨dst,op,ty,pos,after,none⟩ s).bind (λJ=>bif has i ls then(ZHF P h E ops i ⟨dst,op,ty,pos,after,none⟩ s acc).bind λC=>ZbH P h E N ops ls l (i+1) C J else(Zfo P h E (ZcW h ⟨dst,op,ty,pos,after,none⟩ acc) J.hp).bind λ_=>ZbH P h E N ops ls l (i+1) (ZcW h ⟨dst,op,ty,pos,after,none⟩ acc) J)=_;have R:=λj acc s=>Zyl N ops ls l j acc s I;cases hi:has i ls with|true=>(simp[ZsL,ZiX,hi,ZJX,ZHF];cases U:ZaU P h E s.hp (ev s.tm) ⟨dst,op,ty,pos,after,none⟩with|none=>rfl|some v=>simp[Xau];cases ZgX N dst v s.tm with|none=>rfl|some tm=>simp[Xad];exact R _ _ _)|false=>simp[ZsL,ZiX,hi,Zf2,ZeT,ZzL];cases opE P h E s.hp (ev s.tm) op with|none=>rfl|some x=>simp;cases ZgX N dst x.1 s.tm with|none=>rfl|some tm=>simp[Xad];cases Zfo P h E (ZcW h ⟨dst,op,ty,pos,after,none⟩ acc) x.2 with|none=>rfl|some _=>simp;exact R _ _ _
def ZL6 (P:Program) (h:Hints) (E:Ev) (N:Nat) (ls:List Nat) (ops:Array Oper) (s:St):Option St:=ZvB P h E N ls ops s
def ZzP N j ls ops s (C:noG ops.toList=true):ZL6 P h E N (j::ls) ops s=ZsL P h E N (j::ls) ops.toList 0 [] s:=Zyl N ops _ _ _ _ _ C
def ZAZ c i ops d s:exS P h E c (.region i ops d) s=ZEN (ZL6 P h E c.N (h.light c.fid i) (rgo (h.perm c.fid i) ops) s):=by show(ZvB P h E c.N (h.light c.fid i) (rgo (h.perm c.fid i) ops) s).map _=_;show _=ZEN (ZvB P h E c.N (h.light c.fid i) (rgo (h.perm c.fid i) ops) s);cases ZvB P h E c.N (h.light c.fid i) (rgo (h.perm c.fid i) ops) s<;>rfl
def ZJy (P:Program) (h:Hints) (E:Ev) (N:Nat) (ls:List Nat) (l:List Oper) (i:Nat) (acc:List (Nat×Oper×List (Nat×PV)×PV)) (s:St):Option Unit->Option St
 |some _=>ZsL P h E N ls l i acc s
 |none=>none
def ZGc (P:Program) (h:Hints) (E:Ev) (N:Nat) (ls:List Nat) (dst:Option Tmp) (l:List Oper) (i:Nat) (acc:List (Nat×Oper×List (Nat×PV)×PV)) (tm:List (Nat×PV)):Zo7->Option St
 |some x=>(ZgX N dst x.1 tm).bind λtm'=>ZJy P h E N ls l (i+1) acc ⟨tm',x.2⟩ (Zfo P h E acc x.2)
 |none=>none
def ZJT (P:Program) (h:Hints) (E:Ev) (N:Nat) (ls:List Nat) (dst:Option Tmp) (o:Oper) (l:List Oper) (i:Nat) (acc:List (Nat×Oper×List (Nat×PV)×PV)) (tm:List (Nat×PV)) (H:List Mem):Option PV->Option St
 |some v=>(ZgX N dst v tm).bind λtm'=>ZsL P h E N ls l (i+1) ((i,o,tm,v)::acc) ⟨tm',H⟩
 |none=>none
def Zv1 ls N dst op ty pos after l i acc tm H (hi:has i ls=false):ZsL P h E N ls (⟨dst,op,ty,pos,after,none⟩::l) i acc ⟨tm,H⟩=ZGc P h E N ls dst l i (ZcW h ⟨dst,op,ty,pos,after,none⟩ acc) tm (opE P h E H (ev tm) op):=by simp[ZsL,hi];cases opE P h E H (ev tm) op with|none=>rfl|some x=>simp[ZGc];congr 1;funext tm';cases Zfo P h E (ZcW h ⟨dst,op,ty,pos,after,none⟩ acc) x.2<;>rfl
def Zwa (ls:List Nat) (N:Nat) (dst:Option Tmp) (op:Op) (ty:TypeId) (pos:String) (after:Array Edge) (l:List Oper) (i:Nat) (acc:List (Nat×Oper×List (Nat×PV)×PV)) (tm:List (Nat×PV)) (H:List Mem) (hi:has i ls=true):ZsL P h E N ls (⟨dst,op,ty,pos,after,none⟩::l) i acc ⟨tm,H⟩=ZJT P h E N ls dst ⟨dst,op,ty,pos,after,none⟩ l i acc tm H (ZaU P h E H (ev tm) ⟨dst,op,ty,pos,after,none⟩):=by simp[ZsL,hi,cond_true];cases ZaU P h E H (ev tm) ⟨dst,op,ty,pos,after,none⟩with|none=>rfl|some v=>rfl
def Zum (P:Program) (h:Hints) (E:Ev) (acc:List (Nat×Oper×List (Nat×PV)×PV)) (H:List Mem) (v:PV):Option PV->Option Unit
 |some u=>bif Ziw u v then Zfo P h E acc H else none
 |none=>none
theorem Zwp (i:Nat) (o:Oper) (tm:List (Nat×PV)) (v:PV) (acc:List (Nat×Oper×List (Nat×PV)×PV)) (H:List Mem):Zfo P h E ((i,o,tm,v)::acc) H=Zum P h E acc H v (ZaU P h E H (ev tm) o):=by show(ZaU P h E H (ev tm) o).bind (λu=>bif Ziw u v then Zfo P h E acc H else none)=_;cases ZaU P h E H (ev tm) o<;>rfl
def ZrL (acc:List (Nat×Oper×List (Nat×PV)×PV)) (H:List Mem) (u v:PV) (j:Ziw u v=true):Zum P h E acc H v (some u)=Zfo P h E acc H:=by grind [Zum]
def Zdh (v:Option PV):((val v).bind λx=>match x with|(v,[],[])=>some v|_=>none)=v:=by cases v<;>rfl
section
variable (dst:Option Tmp) (ty:TypeId) (pos:String) (after:Array Edge) (g:Option (Nat × Bool))
theorem Zi9 (t:TypeId) (a:Operand):ZaU P h E H ρ ⟨dst, .load t a,ty,pos,after,g⟩=Zn6 P H t (ρ a):=Zdh _
theorem Zci (t:TypeId) (x i:Operand):ZaU P h E H ρ ⟨dst, .indexAddr t x i,ty,pos,after,g⟩=Zbc P H t (ρ x) (ρ i):=Zdh _
def Znq (x:Operand):ZaU P h E H ρ ⟨dst, .move x,ty,pos,after,g⟩=ρ x:=Zdh _
end
def Zee (r:Nat):Code->Option Code
 | .seq a b=>match Zee r a with
  |some c=>some c
  |none=>Zee r b
 | .cond _ a b=>match Zee r a with
  |some c=>some c
  |none=>Zee r b
 | .block _ b=>Zee r b
 | .loop b=>bif Nat.beq (ZdG b) r then some b else Zee r b
 | .scope b=>Zee r b
 |_=>none
def bodyOf (f:Func):Code:=match f.body with|some c=>c|none=> .skip
def ZaN (f:Func) (r:Nat):Code:=match Zee r (bodyOf f)with|some c=>c|none=> .skip
def Flat (v:PV):Prop:=ZcP v=[]/\Zb1 v=true/\ ∀l,ren l v=v
def Zzj:Flat .nils:=⟨rfl,rfl,λ_=>rfl⟩
def ZBV (es:List (List PV)):Flat (.lst es):=⟨rfl,rfl,λ_=>rfl⟩
def Sl.flat {q:PV} {es:List (List PV)} (j:Sl q es):Flat q:=by rcases j with⟨rfl,_⟩|rfl;exact Zzj;exact ZBV _
end
section
variable {P:Program} {h:Hints} {E:Ev} {H:List Mem} {ρ:Operand->Option PV}
def ZJg {s d:TypeId} (j:(P.underlying s).isSome=true) (hd:P.underlying d=some .string) (k:IntKind) {n:Int} (C:0<=n) (I:n<128):Zdx P H s d (.int k n)=some (.str ⟨#[UInt8.ofNat n.toNat]⟩):=by unfold Zdx;grind [Option.isSome_iff_exists]
theorem ZtC (b:Bool):exp ZaZ H (.bool b)=some (.bool b):=rfl
def Plain (v:PV):Prop:= ∀n H,exp (n+1) H v=some v
def ZvP:Plain .nils:=λ_ _=>rfl
def ZxN (es:List (List PV)):Plain (.lst es):=λ_ _=>rfl
def Sl.plain {q:PV} {es:List (List PV)} (j:Sl q es):Plain q:=by rcases j with⟨rfl,_⟩|rfl;exact ZvP;exact ZxN _
def Plain.exp {v:PV} (j:Plain v):exp ZaZ H v=some v:=j 39 H
def ZMj (n:Nat) (H:List Mem) (i l:Nat):Option Mem->Option PV
 |some (.row es _ _)=>if i+l<=es.length then(Za3 (Za3 (exp n H)) ((es.drop i).take l)).map .lst else none
 |_=>none
def ZxQ (n id i l m:Nat):exp (n+1) H (.ref id i l m)=ZMj n H i l H[id]? :=by show(match H[id]? with|some (.row es _ _)=>if i+l<=es.length then(Za3 (Za3 (exp n H)) ((es.drop i).take l)).map PV.lst else none|_=>none)=_;generalize H[id]? =x;cases x with|none=>rfl|some m=>cases m<;>rfl
def Sl.rch {q:PV} {es:List (List PV)} (j:Sl q es):rch ZaZ H q=[]:=by rcases j with⟨rfl,_⟩|rfl<;>rfl
end
section
variable {P:Program} {h:Hints} {E:Ev} {H:List Mem}
def Zt7 (tm:List (Nat×PV)) (H:List Mem) (ids:List Nat):Option St:=
 if tm.all (λx=>Zb1 x.2)=true then
  (Za3 (λi=>(H[i]?).bind λm=>if(okM m&&(ZpE m).all ids.contains)=true then some (ZsS ids m)else none) ids).map λH'=>⟨tm.map λx=>(x.1,ren ids x.2),H'⟩
 else none
def ZLO (tm:List (Nat×PV)):List Nat:=(tm.flatMap λx=>ZcP x.2).foldl Zcl []
def ZeX (H:List Mem) (ids:List Nat):List Nat:=(ids.flatMap (ZrM H)).foldl Zcl ids
def Zsy (tm:List (Nat×PV)):Zfh tm H=Zt7 tm H (ZeX H (ZeX H (ZeX H (ZLO tm)))):=rfl
def ZLx:Option Mem->List Nat
 |some m=>ZpE m
 |none=> []
def ZuF (i:Nat):ZrM H i=ZLx H[i]? :=by grind [ZrM,ZLx]
def Zrj (m:Mem):ZLx (some m)=ZpE m:=rfl
theorem ZAK {m:Mem} (hm:Zmf m=true):ZpE m=[]:=by simp[ZpE,hm]
def Sl.ids {q:PV} {es:List (List PV)} (j:Sl q es):ZcP q=[]/\Zb1 q=true/\(∀l,ren l q=q)/\Zf4 q=[]/\Zg7 q=true/\(∀l,Zvq l q=q)/\ZhW q=true:=by rcases j with⟨rfl,_⟩|rfl<;>exact⟨rfl,rfl,λ_=>rfl,rfl,rfl,λ_=>rfl,rfl⟩
def Flat.ids {v:PV} (j:Flat v):ZcP v=[]/\Zb1 v=true/\ ∀l,ren l v=v:=j
end
open Go.RowKit
section
variable [Laid] {P:Program} {h:Hints} {E:Ev}
end
section
variable [Laid] {P:Program} {h:Hints}
def withPrims (h:Hints) (p:FuncId->Option (List PV->Option PV)):Hints:={h with prim:=p}
variable {p:FuncId->Option (List PV->Option PV)}
def Zk7 (ls:List Nat): ∀ (os:List Oper) (i:Nat),ZnK (withPrims h p) ls os i=ZnK h ls os i
 | [],_=>rfl
 |o::os,i=>by simp only[ZnK,Zk7 ls os];rfl
def Zqa (ls:List Nat) (ops:Array Oper):Zio (withPrims h p) ls ops=Zio h ls ops:=by simp[Zio,Zk7];rfl
def Zcn (f:FuncId): ∀c:Code,Zbs (withPrims h p) f c=Zbs h f c
 | .region _ _ _=>by simp[Zbs,Zqa];rfl
 | .seq a b=>by simp[Zbs,Zcn f a,Zcn f b]
 | .cond _ a b=>by simp[Zbs,Zcn f a,Zcn f b]
 | .block _ b=>by simp[Zbs,Zcn f b]
 | .loop b=>by simp[Zbs,Zcn f b]
 | .skip| .label _| .exit _| .ret| .goto _| .refuse _| .rangeFunc _ _ _ _| .scope _=>rfl
def Zsn (f:FuncId):ZoI P (withPrims h p) f=ZoI P h f:=by simp[ZoI,Zcn]
def Zdk (j:Static P h) (hp: ∀f,(p f).isSome=true->ZEJ P f):Static P (withPrims h p):=
 ⟨j.mixed,λf hf=>by rw[Zsn];exact j.fns f hf,hp⟩
end
end
end Go.Am
