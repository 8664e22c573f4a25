/- A program logic over the evaluator: typed values, what code asks of a state (definitions alone). -/
import Derived.Test.YtpdhpbldangmbaaGreatDoorAmC
set_option linter.all false
namespace Go.Tx
noncomputable section
open Go.Am
inductive AV where
 |nil
 |i (t:TypeId) (k:IntKind) (n:Int)
 |s (t:TypeId) (x:List UInt8)
def AV.pv:AV->PV
 | .nil=> .nili
 | .i t k n=> .ifc t (.i k n)
 | .s t x=> .ifc t (.s ⟨List.toArray x⟩)
inductive CT where
 |i (k:IntKind)|b|s|l (e:CT)|p (a c:CT)|any
 deriving DecidableEq
abbrev CT.D:CT->Type
 | .i _=>Int
 | .b=>Bool
 | .s=>List UInt8
 | .l e=>List e.D
 | .p a c=>a.D×c.D
 | .any=>AV
def CT.w:CT->Nat
 | .p a c=>a.w+c.w
 |_=>1
def CT.z:(t:CT)->t.D
 | .i _=>(0:Int)
 | .b=>false
 | .s=>([]:List UInt8)
 | .l e=>([]:List e.D)
 | .p a c=>(a.z,c.z)
 | .any=>AV.nil
def All2 {α β:Type} (R:α->β->Prop):List α->List β->Prop
 | [],[]=>True
 |a::as,b::j=>R a b/\All2 R as j
 |_,_=>False
def RR:(t:CT)->t.D->List PV->Prop
 | .i k,x,cs=>cs=[.int k x]
 | .b,x,cs=>cs=[.bool x]
 | .s,x,cs=>cs=[.str ⟨List.toArray x⟩]
 | .l e,xs,cs=>(cs=[.nils]/\xs=([]:List e.D))\/ ∃es,cs=[.lst es]/\All2 (RR e) xs es
 | .p a c,x,cs=> ∃u v,cs=u++v/\RR a x.1 u/\RR c x.2 v
 | .any,x,cs=>cs=[AV.pv x]
inductive SV where
 |v (t:CT) (x:t.D)
 |nilp|nils|nilf|nili|nilmp
 |ref (id i n:Nat) (m:Option Nat)
 |ptr (id i r:Nat)
 |box (t:CT) (x:t.D) (r:Nat)
 |func (f:FuncId) (first caps:List SV)
 |agg (cs:List SV)
 |tup (vs:List SV)
 |mp (id:Nat)
abbrev Ph:=List (Option Nat)
mutual
def RV (φ:Ph):SV->PV->Prop
 | .v t x,q=>RR t x [q]
 | .nilp,q=>q= .nilp
 | .nils,q=>q= .nils
 | .nilf,q=>q= .nilf
 | .nili,q=>q= .nili
 | .nilmp,q=>q= .nilm
 | .ref id i n m,q=>(∃a,φ[id]? =some (some a)/\q= .ref a i n (m.getD n))\/(φ[id]? =some none/\q= .nils/\i=0/\n=0/\m.getD n=0)
 | .ptr id i r,q=> ∃a,φ[id]? =some (some a)/\q= .ptr a i r
 | .box t x r,q=> ∃cs,q= .box cs r/\RR t x cs
 | .func f a c,q=> ∃C I,q= .func f C I/\RL φ a C/\RL φ c I
 | .agg cs,q=> ∃j,q= .agg j/\RL φ cs j
 | .tup vs,q=> ∃vs',q= .tup vs'/\RL φ vs vs'
 | .mp id,q=> ∃a,φ[id]? =some (some a)/\q= .map a
def RL (φ:Ph):List SV->List PV->Prop
 | [],j=>j=[]
 |v::vs,j=> ∃q r,j=q::r/\RV φ v q/\RL φ vs r
end
inductive SM where
 |row (t:CT) (l:List t.D) (m:Bool)
 |cell (cs:List SV) (m:Bool)
 |many (ct:CT) (els:List SV) (m:Bool)
 |set (ks:List (List UInt8))
 |im (t:CT) (es:List (Int×t.D))
 |dead
def live:SM->Bool
 | .dead=>false
 |_=>true
def RM (φ:Ph) (L:Nat->Option Mem) (o:Option Nat):SM->Prop
 | .row t l m=>match o with
  |some a=> ∃es j,L a=some (.row es t.w j)/\All2 (RR t) l es/\(m=true->j=true)
  |none=>l=[]
 | .cell cs m=> ∃a C j,o=some a/\L a=some (.row [C] C.length j)/\RL φ cs C/\(m=true->j=true)
 | .many _ I m=>match o with
  |some a=> ∃es j,L a=some (.row es 1 j)/\All2 (λV c=> ∃q,c=[q]/\RV φ V q) I es/\(m=true->j=true)
  |none=>I=[]
 | .set ks=> ∃a es,o=some a/\L a=some (.map es)/\All2 (λ(k:List UInt8) (e:PV×PV)=>e=(.str ⟨List.toArray k⟩, .bool true)) ks es
 | .im t ks=> ∃a es,o=some a/\L a=some (.map es)/\All2 (λ(k:Int×t.D) (e:PV×PV)=>e.1= .int .i64 k.1/\RR t k.2 [e.2]) ks es
 | .dead=>True
structure RH (φ:Ph) (hp:List SM) (L:Nat->Option Mem):Prop where
 len:φ.length=hp.length
 row: ∀ (id:Nat) (sm:SM) (o:Option Nat),hp[id]? =some sm->φ[id]? =some o->RM φ L o sm
 inj: ∀ (id id':Nat) (sm sm':SM) (a:Nat),id≠id'->hp[id]? =some sm->hp[id']? =some sm'->live sm=true->live sm'=true->φ[id]? =some (some a)->φ[id']? =some (some a)->False
abbrev TM:=List (Nat×SV)
def ZbJ (i:Nat):TM->Option SV
 | []=>none
 |p::r=>bif Nat.beq i p.1 then some p.2 else ZbJ i r
structure SRep (φ:Ph) (tm:TM) (hp:List SM) (st:St):Prop where
 tm: ∀i V,ZbJ i tm=some V-> ∃q,get st.tm i=some q/\RV φ V q
 hp:RH φ hp (λa=>st.hp[a]?)
def Le (φ φ':Ph):Prop:= ∀ (id:Nat) (o:Option Nat),φ[id]? =some o->φ'[id]? =some o
def Fr (F:Nat) (φ φ':Ph):Prop:= ∀id,id<F->φ'[id]? =φ[id]?
inductive TK where
 |int (k:IntKind)|bool|str|slice (e:TypeId)|arr (n:Nat) (e:TypeId)|struct (fs:List (Nat×TypeId×Nat))|ptr|func|smap|imap (v:CT)|any|other
structure TI where
 k:TK
 sz:Nat
 by_:Nat
 zero:List SV
 ct:Option CT
def nth {α:Type}:List α->Nat->Option α
 | [],_=>none
 |a::_,0=>some a
 |_::l,n+1=>nth l n
def keq (a b:IntKind):Bool:=Nat.beq a.ctorIdx b.ctorIdx
def ceq:CT->CT->Bool
 | .i a, .i b=>keq a b
 | .b, .b=>true
 | .s, .s=>true
 | .l a, .l b=>ceq a b
 | .p a c, .p b d=>ceq a b&&ceq c d
 | .any, .any=>true
 |_,_=>false
def ZaW:(t:CT)->t.D->List SV
 | .p a c,x=>ZaW a x.1++ZaW c x.2
 | .i k,x=> [.v (.i k) x]
 | .b,x=> [.v .b x]
 | .s,x=> [.v .s x]
 | .l e,x=> [.v (.l e) x]
 | .any,x=> [.v .any x]
theorem Zg6 {a b:IntKind} (h:keq a b=true):a=b:=by revert h;cases a<;>cases b<;>decide
def ZiB: ∀ {e j:CT},ceq e j=true->e=j:=by intro e;induction e with|i k=>intro j h;cases j<;>simp[ceq]at h;rw[Zg6 h]|b=>intro j h;cases j<;>simp[ceq]at h;rfl|s=>intro j h;cases j<;>simp[ceq]at h;rfl|l a J=>intro j h;cases j<;>simp[ceq]at h;rw[J h]|p a c C I=>intro j h;cases j<;>simp[ceq]at h;rw[C h.1,I h.2]|any=>intro j h;cases j<;>simp[ceq]at h;rfl
def Zj1:(e j:CT)->ceq e j=true->List e.D->List j.D:=λe j h xs=>cast (by rw[ZiB h]) xs
def Zb9:(t:CT)->List SV->Option t.D
 | .p a c,cs=>match Zb9 a (cs.take a.w)with
  |some x=>match Zb9 c (cs.drop a.w)with
   |some y=>some (x,y)
   |none=>none
  |none=>none
 | .i k,cs=>match cs with
  | [.v (.i k') y]=>bif keq k k' then some y else none
  |_=>none
 | .b,cs=>match cs with
  | [.v .b y]=>some y
  |_=>none
 | .s,cs=>match cs with
  | [.v .s y]=>some y
  |_=>none
 | .l e,cs=>match cs with
  | [.v (.l j) y]=>if h:ceq j e=true then some (Zj1 j e h y)else none
  | [.nils]=>some ([]:List e.D)
  |_=>none
 | .any,cs=>match cs with
  | [.v .any y]=>some y
  | [.nili]=>some AV.nil
  |_=>none
def ZoB:Value->Option SV
 | .bool b=>some (.v .b b)
 | .int k n=>some (.v (.i k) n)
 | .string s=>some (.v .s s.data.toList)
 | .pointer none=>some .nilp
 | .slice none 0 0=>some .nils
 | .nilFunc=>some .nilf
 | .nilIface=>some .nili
 | .map none=>some .nilmp
 |_=>none
def Zkf:List Value->Option (List SV)
 | []=>some []
 |v::r=>match ZoB v with
  |some x=>match Zkf r with
   |some y=>some (x::y)
   |none=>none
  |none=>none
def Zw2:Value->Option SV
 | .agg cs=>match Zkf cs.toList with
  |some l=>some (.agg l)
  |none=>none
 |v=>ZoB v
def evS (tm:TM):Operand->Option SV
 | .tmp t=>ZbJ t tm
 | .const v=>Zw2 v
 | .func f=>some (.func f [] [])
 | .global _=>none
def evL (tm:TM):List Operand->Option (List SV)
 | []=>some []
 |x::r=>match evS tm x with
  |some v=>match evL tm r with
   |some l=>some (v::l)
   |none=>none
  |none=>none
def Zbr:SV->List SV
 | .agg cs=>cs
 |v=> [v]
def Zcd:SV->Bool
 | .tup _=>false
 |_=>true
def spl {α:Type} (l:List α) (off:Nat) (cs:List α):List α:=l.take off++(cs++l.drop (off+cs.length))
def sub {α:Type} (l:List α) (i n:Nat):List α:=(l.drop i).take n
section
variable (P:Program) (h:Hints)
structure PureOK (f:FuncId) (Vs:List SV) (Q:SV->Prop):Prop where
 out: ∀qs,RL [] Vs qs-> ∃q V,ZbZ h (lim P h) f qs=some q/\RV [] V q/\Q V
structure ImpOK (f:FuncId) (Vs:List SV) (Q:SV->List SM->Bool->Prop):Prop where
 out: ∀qs,RL [] Vs qs-> ∀base,∃v rows sf φ V hp sf',Ze8 (lim P h) f qs base=some (v,rows,sf)/\RV φ V v/\RH φ hp (λa=>if base<=a then rows[a-base]? else none)/\(sf'=true->sf=true)/\Q V hp sf'
structure OpenOK (f:FuncId) (Vs:List SV) (hp:List SM) (Q:SV->List SM->Prop):Prop where
 out: ∀φ H qs,RH φ hp (λa=>H[a]?)->RL φ Vs qs-> ∃v H' φ' V hp',(lim P h).rn f qs H=some (v,H')/\Le φ φ'/\RH φ' hp' (λa=>H'[a]?)/\RV φ' V v/\Q V hp'
structure LoopOK (F:Nat) (c:Cx) (b:Code) (tm:TM) (hp:List SM) (Q:Ex->TM->List SM->Prop):Prop where
 out: ∀φ st,F<=φ.length->SRep φ tm hp st-> ∃e st' φ' tm' hp',(lim P h).ex c (.loop b) st=some (e,st')/\Fr F φ φ'/\SRep φ' tm' hp' st'/\Q e tm' hp'
end
def Zdj (f:SV->(SV->Prop)->Prop):List SV->(List SV->Prop)->Prop
 | [],k=>k []
 |v::r,k=>f v λj=>Zdj f r λC=>k (j::C)
def ZCF (ct:CT):List SV->Option (List ct.D)
 | []=>some []
 |V::r=>match Zb9 ct [V]with
  |some x=>match ZCF ct r with
   |some xs=>some (x::xs)
   |none=>none
  |none=>none
def ZbS (hp:List SM):Nat->SV->(SV->Prop)->Prop
 |0,_,_=>False
 |1,_,_=>False
 |n+2,V,k=>match V with
  | .ref id i m _=>match nth hp id with
   |some (.row t l _)=>i+m<=l.length/\k (.v (.l t) (sub l i m))
   |some (.many ct C _)=>i+m<=C.length/\Zdj (ZbS hp (n+1)) (sub C i m) λcs=>match ZCF ct cs with
    |some xs=>k (.v (.l ct) xs)
    |none=>False
   |some (.cell cs _)=>(i=0/\m=1)/\Zdj (ZbS hp (n+1)) cs λj=> ∃ (ct:CT) (x:ct.D),Zb9 ct j=some x/\k (.v (.l ct) [x])
   |_=>False
  | .ptr id i r=>match nth hp id with
   |some (.row t l _)=> ∃x,l[i]? =some x/\k (.box t x r)
   |some (.cell cs _)=>i=0/\Zdj (ZbS hp (n+1)) cs λj=> ∃ (ct:CT) (x:ct.D),Zb9 ct j=some x/\k (.box ct x r)
   |_=>False
  | .func f a c=>Zdj (ZbS hp (n+1)) a λI=>Zdj (ZbS hp (n+1)) c λJ=>k (.func f I J)
  | .agg cs=>Zdj (ZbS hp (n+1)) cs λj=>k (.agg j)
  | .tup vs=>Zdj (ZbS hp (n+1)) vs λvs'=>k (.tup vs')
  | .mp _=>False
  |V=>k V
def ZDV (hp:List SM):List SV->(List SV->Prop)->Prop:=Zdj (ZbS hp 40)
mutual
def ZdS:SV->List Nat
 | .ref id _ _ _=> [id]
 | .ptr id _ _=> [id]
 | .func _ a c=>rchL a++rchL c
 | .agg cs=>rchL cs
 | .tup vs=>rchL vs
 | .mp id=> [id]
 |_=> []
def rchL:List SV->List Nat
 | []=> []
 |v::r=>ZdS v++rchL r
end
def Zdz (hp:List SM):Nat->SV->List Nat
 |0,_=> []
 |n+1,V=>match V with
  | .ref id i m _=>id::(match nth hp id with
   |some (.many _ j _)=>(sub j i m).flatMap (Zdz hp n)
   |some (.cell cs _)=>cs.flatMap (Zdz hp n)
   |_=> [])
  | .ptr id _ _=>id::(match nth hp id with
   |some (.cell cs _)=>cs.flatMap (Zdz hp n)
   |_=> [])
  | .func _ a c=>a.flatMap (Zdz hp n)++c.flatMap (Zdz hp n)
  | .agg cs=>cs.flatMap (Zdz hp n)
  | .tup vs=>vs.flatMap (Zdz hp n)
  | .mp id=> [id]
  |_=> []
def ZdC (hp:List SM) (l:List SV):List Nat:=l.flatMap (Zdz hp 40)
def frz1 (hp:List SM) (id:Nat):List SM:=match nth hp id with
 |some (.row t l _)=>hp.set id (.row t l false)
 |some (.cell cs _)=>hp.set id (.cell cs false)
 |some (.many ct j _)=>hp.set id (.many ct j false)
 |_=>hp
def frzT (hp:List SM):List Nat->List SM
 | []=>hp
 |i::r=>frzT (frz1 hp i) r
def ZkC:SV->Bool
 | .v (.i _) _| .v .b _| .v .s _| .v .any _| .nilp| .nils| .nilf| .nili| .nilmp=>true
 |_=>false
def ZzN:SV->Bool
 | .tup vs=>vs.all ZkC
 | .agg cs=>cs.all ZkC
 |v=>ZkC v
mutual
def shS (b:Nat):SV->SV
 | .ref id i n m=> .ref (b+id) i n m
 | .ptr id i r=> .ptr (b+id) i r
 | .func f a c=> .func f (shL b a) (shL b c)
 | .agg cs=> .agg (shL b cs)
 | .tup vs=> .tup (shL b vs)
 | .v t x=> .v t x
 | .nilp=> .nilp
 | .nils=> .nils
 | .nilf=> .nilf
 | .nili=> .nili
 | .nilmp=> .nilmp
 | .box t x r=> .box t x r
 | .mp id=> .mp (b+id)
def shL (b:Nat):List SV->List SV
 | []=> []
 |v::r=>shS b v::shL b r
end
def shH (b:Nat):SM->SM
 | .row t l m=> .row t l m
 | .cell cs m=> .cell (shL b cs) m
 | .many ct j m=> .many ct (shL b j) m
 | .set ks=> .set ks
 | .im t ks=> .im t ks
 | .dead=> .dead
def ZwY (b:Nat):List SM->List SM
 | []=> []
 |m::r=>shH b m::ZwY b r
section
variable (P:Program) (h:Hints) (T:TypeId->TI)
def ZKT (op:BinOp) (j:IntKind) (a:Int) (C:IntKind) (b:Int) (k:SV->Prop):Prop:=
 match op with
 | .shl=>0<=b/\k (.v (.i j) (j.wrap (a*2^(min b.toNat j.bits))))
 | .shr=>0<=b/\k (.v (.i j) (a.fdiv (2^(min b.toNat j.bits))))
 |op=>match keq j C with
  |false=>False
  |true=>match op with
   | .add=>k (.v (.i j) (j.wrap (a+b)))
   | .sub=>k (.v (.i j) (j.wrap (a-b)))
   | .mul=>k (.v (.i j) (j.wrap (a*b)))
   | .quo=>b≠0/\k (.v (.i j) (j.wrap (a.tdiv b)))
   | .rem=>b≠0/\k (.v (.i j) (a.tmod b))
   | .and=>k (.v (.i j) (j.wrap (BitVec.ofInt j.bits a&&&BitVec.ofInt j.bits b).toNat))
   | .or=>k (.v (.i j) (j.wrap (BitVec.ofInt j.bits a|||BitVec.ofInt j.bits b).toNat))
   | .xor=>k (.v (.i j) (j.wrap (BitVec.ofInt j.bits a^^^BitVec.ofInt j.bits b).toNat))
   | .andNot=>k (.v (.i j) (j.wrap (BitVec.ofInt j.bits a&&& ~~~ (BitVec.ofInt j.bits b)).toNat))
   | .eql=>k (.v .b (decide (a=b)))
   | .neq=>k (.v .b (!decide (a=b)))
   | .lss=>k (.v .b (decide (a<b)))
   | .leq=>k (.v .b (decide (a<=b)))
   | .gtr=>k (.v .b (decide (b<a)))
   | .geq=>k (.v .b (decide (b<=a)))
   |_=>False
def ZLQ (op:BinOp) (a b:List UInt8) (k:SV->Prop):Prop:=
 match op with
 | .add=>a.length+b.length<=9223372036854775807/\k (.v .s (a++b))
 | .eql=>k (.v .b (a==b))
 | .neq=>k (.v .b (!(a==b)))
 | .lss=>k (.v .b (Op.bytesLess a b))
 | .leq=>k (.v .b (Op.bytesLess a b||a==b))
 | .gtr=>k (.v .b (!(Op.bytesLess a b||a==b)))
 | .geq=>k (.v .b (!Op.bytesLess a b))
 |_=>False
def eqB (op:BinOp) (r:Bool) (k:SV->Prop):Prop:=
 match op with
 | .eql=>k (.v .b r)
 | .neq=>k (.v .b (!r))
 |_=>False
def ZII:SV->Option PV
 | .v (.i k) n=>some (.int k n)
 | .v .b b=>some (.bool b)
 | .v .s s=>some (.str ⟨s.toArray⟩)
 |_=>none
def Zrb:List SV->Option (List PV)
 | []=>some []
 |v::vs=>match ZII v,Zrb vs with
  |some a,some l=>some (a::l)
  |_,_=>none
def ZLg (op:BinOp) (t:TypeId) (x y:SV) (k:SV->Prop):Prop:=
 match x,y with
 | .agg xs, .agg ys=>match Zrb xs,Zrb ys with
  |some a,some b=> ∃r,ZB0 P t a b=some r/\eqB op r k
  |_,_=>False
 | .v (.i j) a, .v (.i C) b=>ZKT op j a C b k
 | .v .s a, .v .s b=>ZLQ op a b k
 | .v .b a, .v .b b=>match(T t).k with
  | .bool=>eqB op (a==b) k
  |_=>False
 | .nilp, .nilp=>match(T t).k with
  | .ptr=>eqB op true k
  |_=>False
 | .ptr _ _ _, .nilp=>match(T t).k with
  | .ptr=>eqB op false k
  |_=>False
 | .box _ _ _, .nilp=>match(T t).k with
  | .ptr=>eqB op false k
  |_=>False
 | .nils, .nils=>match(T t).k with
  | .slice _=>eqB op true k
  |_=>False
 | .v (.l _) xs, .nils=>match(T t).k with
  | .slice _=>(xs=[]->eqB op true k)/\eqB op false k
  |_=>False
 | .ref _ _ n _, .nils=>match(T t).k with
  | .slice _=>(n=0->eqB op true k)/\eqB op false k
  |_=>False
 |_,_=>False
def unT (op:UnOp) (x:SV) (k:SV->Prop):Prop:=
 match op,x with
 | .neg, .v (.i j) n=>k (.v (.i j) (j.wrap (0-n)))
 | .not, .v .b b=>k (.v .b (!b))
 | .xor, .v (.i j) n=>k (.v (.i j) (j.wrap (BitVec.ofInt j.bits (if j.signed then-1 else j.max)^^^BitVec.ofInt j.bits n).toNat))
 |_,_=>False
def Zjw (s:List UInt8):List Int:=s.map λb=>(b.toNat:Int)
def Zkv (l:List Int):List UInt8:=l.map λn=>UInt8.ofNat n.toNat
def ZG5 (s d:TypeId) (hp:List SM) (x:SV) (k:SV->Prop):Prop:=
 match(T s).k,(T d).k,x with
 | .other,_,_=>False
 |_, .int j, .v (.i _) n=>k (.v (.i j) (j.wrap n))
 | .int _, .str, .v (.i _) n=>(0<=n/\n<128)/\k (.v .s [UInt8.ofNat n.toNat])
 |_, .str, .v .s a=>k (.v .s a)
 | .str, .slice e, .v .s a=>match(T e).k with
  | .int .u8=>k (.v (.l (.i .u8)) (Zjw a))
  |_=>False
 | .slice e, .str, .v (.l (.i .u8)) a=>match(T e).k with
  | .int .u8=>k (.v .s (Zkv a))
  |_=>False
 | .slice e, .str, .ref id i n _=>match(T e).k with
  | .int .u8=>match nth hp id with
   |some (.row (.i .u8) l _)=>i+n<=l.length/\k (.v .s (Zkv (sub l i n)))
   |_=>False
  |_=>False
 |_,_,_=>False
def Zjp (i:TI) (cs:List SV) (off:Nat):Option SV:=
 match i.k with
 | .struct _| .arr _ _=>bif Nat.ble (off+i.sz) cs.length then some (.agg ((cs.drop off).take i.sz))else none
 | .other=>none
 |_=>nth cs off
def Zon (t:TypeId) (hp:List SM) (x:SV) (k:SV->Prop):Prop:=
 match x with
 | .ptr id i r=>match nth hp id with
  |some (.row ct l _)=> ∃x,l[i]? =some x/\match Zjp (T t) (ZaW ct x) r with
   |some V=>k V
   |none=>False
  |some (.cell cs _)=>i=0/\match Zjp (T t) cs r with
   |some V=>k V
   |none=>False
  |some (.many _ j _)=> ∃V,j[i]? =some V/\match Zjp (T t) [V] r with
   |some V=>k V
   |none=>False
  |_=>False
 | .box ct x r=>match Zjp (T t) (ZaW ct x) r with
  |some V=>k V
  |none=>False
 |_=>False
def Zvj:SV->Bool
 | .agg _| .tup _=>false
 |_=>true
def ZjY (t:TypeId) (hp:List SM) (a x:SV) (k:SV->List SM->Prop):Prop:=
 match a with
 | .ptr id i r=>match Zcd x&&Nat.beq (Zbr x).length (T t).sz with
  |true=>match nth hp id with
   |some (.row ct l true)=> ∃y,l[i]? =some y/\match(T t).k,Nat.ble (r+(T t).sz) ct.w,Zb9 ct (spl (ZaW ct y) r (Zbr x))with
    | .other,_,_=>False
    |_,true,some z=>k (.tup []) (hp.set id (.row ct (l.set i z) true))
    |_,_,_=>False
   |some (.cell cs true)=>i=0/\match(T t).k,Nat.ble (r+(T t).sz) cs.length with
    | .other,_=>False
    |_,true=>k (.tup []) (hp.set id (.cell (spl cs r (Zbr x)) true))
    |_,_=>False
   |some (.many ct j true)=>i<j.length/\match(T t).k,Nat.beq r 0&&Zvj x with
    | .other,_=>False
    |_,true=>k (.tup []) (hp.set id (.many ct (j.set i x) true))
    |_,_=>False
   |_=>False
  |false=>False
 |_=>False
def ixT (z:Nat) (hp:List SM) (x:SV) (j:Int) (k:SV->Prop):Prop:=
 match x with
 | .v (.l ct) xs=>match Nat.beq ct.w z with
  |true=> ∃y,0<=j/\xs[j.toNat]? =some y/\k (.box ct y 0)
  |false=>False
 | .ref id i n _=>match nth hp id with
  |some (.row ct _ _)=>match Nat.beq ct.w z with
   |true=>(0<=j/\j<n)/\k (.ptr id (i+j.toNat) 0)
   |false=>False
  |some (.cell cs _)=>match Nat.beq cs.length z with
   |true=>(0<=j/\j<n)/\k (.ptr id (i+j.toNat) 0)
   |false=>False
  |some (.many _ _ _)=>match Nat.beq 1 z with
   |true=>(0<=j/\j<n)/\k (.ptr id (i+j.toNat) 0)
   |false=>False
  |_=>False
 |_=>False
def ZeZ (t:TypeId) (hp:List SM) (x C:SV) (k:SV->Prop):Prop:=
 match C with
 | .v (.i _) j=>match(T t).k with
  | .slice e=>match(T e).k with
   | .other=>False
   |_=>ixT (T e).sz hp x j k
  | .arr n e=>match(T e).k with
   | .other=>False
   |_=>match x with
    | .ptr id i r=>(0<=j/\j<n)/\k (.ptr id i (r+j.toNat*(T e).sz))
    | .box ct y r=>(0<=j/\j<n)/\k (.box ct y (r+j.toNat*(T e).sz))
    |_=>False
  |_=>False
 |_=>False
def ZyM (t:TypeId) (x C:SV) (k:SV->Prop):Prop:=
 match C with
 | .v (.i _) j=>match(T t).k,x with
  | .str, .v .s s=> ∃b,0<=j/\s[j.toNat]? =some b/\k (.v (.i .u8) (b.toNat:Int))
  | .arr n e, .agg cs=>(0<=j/\j<n)/\match(T e).k,Zjp (T e) cs (j.toNat*(T e).sz)with
   | .other,_=>False
   |_,some V=>k V
   |_,none=>False
  |_,_=>False
 |_=>False
def Zi7 (s:TypeId) (x:SV) (f:Nat) (k:SV->Prop):Prop:=
 match(T s).k with
 | .struct j=>match nth j f with
  |some (off,_,n+1)=>match x with
   | .ptr id i r=>k (.ptr id i (r+off))
   | .box ct y r=>k (.box ct y (r+off))
   |_=>False
  |_=>False
 |_=>False
def ZEI (s:TypeId) (x:SV) (f:Nat) (k:SV->Prop):Prop:=
 match(T s).k,x with
 | .struct fs, .agg cs=>match nth fs f with
  |some (off,ty,_)=>match Zjp (T ty) cs off with
   |some V=>k V
   |none=>False
  |none=>False
 |_,_=>False
def ZLi (t:TypeId) (x:SV) (k:SV->Prop):Prop:=
 match(T t).k,x with
 | .str, .v .s s=>k (.v (.i .i64) (s.length:Int))
 | .slice _, .v (.l _) xs=>k (.v (.i .i64) (xs.length:Int))
 | .slice _, .nils=>k (.v (.i .i64) (0:Int))
 | .slice _, .ref _ _ n _=>k (.v (.i .i64) (n:Int))
 | .arr n _,_=>k (.v (.i .i64) (n:Int))
 |_,_=>False
def mmT (C:Bool) (x y:SV) (k:SV->Prop):Prop:=
 match x,y with
 | .v (.i j) a, .v (.i I) b=>match keq j I with
  |true=>k (.v (.i j) (match C with|true=>(if b>a then b else a)|false=>(if b<a then b else a)))
  |false=>False
 |_,_=>False
def ZyC (j:Bool):List SV->SV->(SV->Prop)->Prop
 | [],a,k=>k a
 |b::r,a,k=>mmT j a b λc=>ZyC j r c k
def ZCv (j:List (Nat×TypeId×Nat)):List SV->List (Nat×SV)->Option (List SV)
 |cs,[]=>some cs
 |cs,(i,V)::r=>match nth j i with
  |some (off,_,n)=>bif Nat.beq (Zbr V).length n&&Nat.ble (off+n) cs.length then ZCv j (spl cs off (Zbr V)) r else none
  |none=>none
def ZCu (n:Nat):List SV->List (Nat×SV)->Option (List SV)
 |cs,[]=>some cs
 |cs,(i,V)::r=>bif Nat.beq (Zbr V).length n&&Nat.ble (i*n+n) cs.length then ZCu n (spl cs (i*n) (Zbr V)) r else none
def ZpS (tm:TM):List (Nat×Operand)->Option (List (Nat×SV))
 | []=>some []
 |(i,x)::r=>match evS tm x with
  |some V=>bif Zcd V then(match ZpS tm r with
   |some l=>some ((i,V)::l)
   |none=>none)else none
  |none=>none
def Zx7 (t:TypeId) (ps:List (Nat×SV)) (k:SV->Prop):Prop:=
 match(T t).k with
 | .struct j=>match ZCv j (T t).zero ps with
  |some cs=>k (.agg cs)
  |none=>False
 | .arr _ e=>match(T e).k,ZCu (T e).sz (T t).zero ps with
  | .other,_=>False
  |_,some cs=>k (.agg cs)
  |_,none=>False
 |_=>False
def ZCP (ct:CT):List ct.D->List (Nat×SV)->Option (List ct.D)
 |l,[]=>some l
 |l,(i,V)::r=>match Zb9 ct (Zbr V)with
  |some x=>bif Nat.ble (i+1) l.length then ZCP ct (l.set i x) r else none
  |none=>none
def okN:Nat->List (Nat×SV)->Bool
 |0,[]=>true
 |0,_::_=>false
 |_+1,_=>true
def ZBb:Nat->List (Nat×SV)->Option (List SV)
 |_,[]=>some []
 |i,(j,V)::r=>match Nat.beq i j&&Zvj V with
  |true=>match ZBb (i+1) r with
   |some l=>some (V::l)
   |none=>none
  |false=>none
def Zhn (t:TypeId) (n:Nat) (ps:List (Nat×SV)) (hp:List SM) (k:SV->List SM->Prop):Prop:=
 match(T t).k with
 | .slice e=>match(T e).k,okN n ps,Nat.ble 1 (T e).sz&&Nat.ble (n*(T e).sz) 16777216 with
  | .other,_,_=>False
  |_,true,true=>match(T e).ct with
   |some ct=>match ZCP ct (List.replicate n ct.z) ps with
    |some l=>k (.ref hp.length 0 n none) (hp++ [.row ct l true])
    |none=>match ZBb 0 ps,Nat.beq (T e).sz 1,Nat.beq ps.length n with
     |some j,true,true=>k (.ref hp.length 0 n none) (hp++ [.many ct j true])
     |_,_,_=>match n,ps with
      |1,[(0,V)]=>match Nat.beq (Zbr V).length (T e).sz with
       |true=>k (.ref hp.length 0 1 none) (hp++ [.cell (Zbr V) true])
       |false=>False
      |_,_=>False
   |none=>match n,ps with
    |1,[(0,V)]=>match Nat.beq (Zbr V).length (T e).sz with
     |true=>k (.ref hp.length 0 1 none) (hp++ [.cell (Zbr V) true])
     |false=>False
    |_,_=>False
  |_,_,_=>False
 |_=>False
def ZKK:Operand->Operand->Bool
 | .tmp a, .tmp b=>Nat.beq a b
 | .const (.int k a), .const (.int k' b)=>keq k k'&&(a==b)
 |_,_=>false
def Zjm (t:TypeId) (lo co:Operand) (tm:TM) (hp:List SM) (k:SV->List SM->Prop):Prop:=
 match evS tm lo,evS tm co with
 |some (.v (.i _) l),some (.v (.i _) c)=>match(T t).k with
  | .slice e=>match(T e).k,(T e).ct,Nat.ble 1 (T e).sz with
   | .other,_,_=>False
   |_,some ct,true=>(0<=l/\l<=c/\(T e).by_*c<=281474976710656/\c<9223372036854775808)/\match ZKK lo co with
    |true=>match(T e).zero with
     | [.nils]=>k (.ref hp.length 0 l.toNat none) (hp++ [.many ct (List.replicate l.toNat .nils) true])
     |_=>k (.ref hp.length 0 l.toNat none) (hp++ [.row ct (List.replicate l.toNat ct.z) true])
    |false=>k (.ref hp.length 0 l.toNat (some c.toNat)) (hp++ [.row ct (List.replicate c.toNat ct.z) true])
   |_,_,_=>False
  |_=>False
 |_,_=>False
def ZEH (tm:TM) (n m:Nat) (lo hi:Option Operand) (k:Nat->Nat->Prop):Prop:=
 match lo,hi with
 |none,none=>k 0 n
 |some x,none=>match evS tm x with
  |some (.v (.i _) l)=>(0<=l/\l<=n)/\k l.toNat n
  |_=>False
 |none,some y=>match evS tm y with
  |some (.v (.i _) u)=>(0<=u/\u<=m)/\k 0 u.toNat
  |_=>False
 |some x,some y=>match evS tm x,evS tm y with
  |some (.v (.i _) l),some (.v (.i _) u)=>(0<=l/\l<=u/\u<=m)/\k l.toNat u.toNat
  |_,_=>False
def ZuX (t:TypeId) (tm:TM) (hp:List SM) (x:SV) (lo hi:Option Operand) (k:SV->Prop):Prop:=
 match(T t).k,x with
 | .str, .v .s s=>ZEH tm s.length s.length lo hi λl u=>k (.v .s ((s.take u).drop l))
 | .slice e, .v (.l ct) xs=>match(T e).k,Nat.beq ct.w (T e).sz with
  | .other,_=>False
  |_,true=>ZEH tm xs.length xs.length lo hi λl u=>k (.v (.l ct) ((xs.take u).drop l))
  |_,_=>False
 | .slice e, .ref id i n m=>match(T e).k,nth hp id with
  | .other,_=>False
  |_,some (.row ct _ _)=>match Nat.beq ct.w (T e).sz with
   |true=>match hi,m with
    |none,none=>ZEH tm n n lo hi λl u=>k (.ref id (i+l) (u-l) none)
    |_,_=>ZEH tm n (m.getD n) lo hi λl u=>k (.ref id (i+l) (u-l) (some (m.getD n-l)))
   |false=>False
  |_,_=>False
 | .slice e, .nils=>match(T e).k with
  | .other=>False
  |_=>ZEH tm 0 0 lo hi λ_ _=>k .nils
 |_,_=>False
def ZzC (t:TypeId) (tm:TM) (hp:List SM) (x:SV) (lo hi j:Option Operand) (k:SV->Prop):Prop:=(λ_=>False) T
def Zrr (ct:CT) (hp:List SM) (x:SV) (k:List ct.D->Prop):Prop:=
 match x with
 | .nils=>k ([]:List ct.D)
 | .v (.l e) xs=>if h:ceq e ct=true then k (Zj1 e ct h xs)else False
 | .v .s s=>match ct,k with
  | .i .u8,k=>k (Zjw s)
  |_,_=>False
 | .ref id i n _=>match nth hp id with
  |some (.row e l _)=>if h:ceq e ct=true then i+n<=l.length/\k (Zj1 e ct h (sub l i n))else False
  |_=>False
 |_=>False
def ZsN (ct:CT) (by_:Nat) (hp:List SM) (s:SV) (new:List ct.D) (k:SV->List SM->Prop):Prop:=
 match s with
 | .nils=>match new with
  | []=>k .nils hp
  |x::r=>(r.length+1)*by_<=140737488355328/\k (.ref hp.length 0 (r.length+1) none) (hp++ [.row ct (x::r) true])
 | .ref id i n m=>match nth hp id with
  |some (.row e l true)=>if h:ceq e ct=true then i+n<=l.length/\match new with
   | []=>k (.ref id i n m) hp
   |x::r=>match m with
    |none=>(n+(r.length+1))*by_<=140737488355328/\k (.ref hp.length 0 (n+(r.length+1)) none) (hp.set id .dead++ [.row ct (Zj1 e ct h (sub l i n)++x::r) true])
    |some c=>(n+(r.length+1)<=c->i+(n+(r.length+1))<=l.length/\k (.ref id i (n+(r.length+1)) (some c)) (hp.set id (.row ct (spl (Zj1 e ct h l) (i+n) (x::r)) true)))/\
     (c<n+(r.length+1)->(n+(r.length+1))*by_<=140737488355328/\k (.ref hp.length 0 (n+(r.length+1)) none) (hp.set id .dead++ [.row ct (Zj1 e ct h (sub l i n)++x::r) true]))
   else False
  |some (.many e j true)=>ct.w=1/\i=0/\n=j.length/\m=none/\match new with
   | []=>False
   |x::r=>(n+(r.length+1))*by_<=140737488355328/\k (.ref hp.length 0 (n+(r.length+1)) none) (hp.set id .dead++ [.many e (j++(x::r).map λy=>SV.v ct y) true])
  |_=>False
 |_=>False
def Zfs (ts:List TypeId) (hp:List SM) (s x:SV) (k:SV->List SM->Prop):Prop:=
 match ts with
 |t::t2::_=>match(T t).k,(T t2).k with
  | .slice _, .int _=>False
  | .slice _, .other=>False
  | .slice e,_=>match(T e).k,(T e).ct,Nat.ble 1 (T e).by_&&Nat.ble 1 (T e).sz with
   | .other,_,_=>False
   |_,some ct,true=>match h.frz t with
    |true=>ZbS hp 40 x λV=>Zrr ct [] V λnew=>ZsN ct (T e).by_ (frzT hp (Zdz hp 40 x)) s new k
    |false=>Zrr ct hp x λnew=>ZsN ct (T e).by_ hp s new k
   |_,_,_=>False
  |_,_=>False
 |_=>False
def ZHs (ts:List TypeId) (hp:List SM) (d x:SV) (k:SV->List SM->Prop):Prop:=
 match ts with
 |t::_=>match(T t).k with
  | .slice e=>match(T e).k,(T e).ct,Nat.ble 1 (T e).sz with
   | .other,_,_=>False
   |_,some ct,true=>Zrr ct hp x λnew=>match d with
    | .nils=>k (.v (.i .i64) (0:Int)) hp
    | .ref id i n _=>match nth hp id with
     |some (.row j l true)=>if C:ceq j ct=true then i+n<=l.length/\k (.v (.i .i64) ((min new.length n:Nat):Int)) (hp.set id (.row ct (spl (Zj1 j ct C l) i (new.take n)) true))else False
     |_=>False
    |_=>False
   |_,_,_=>False
  |_=>False
 |_=>False
def ZD3 (ts:List TypeId) (hp:List SM) (d:SV) (k:SV->List SM->Prop):Prop:=(λ_=>False) T
def ZbY (f:FuncId) (args:List SV) (hp:List SM) (k:SV->List SM->Prop):Prop:=
 match h.opn f with
 |true=>OpenOK P h f args hp k
 |false=>ZDV hp args λj=>match h.imp f with
  |true=>ImpOK P h f j λV hn C=>k (shS hp.length V) ((match C with|true=>hp|false=>frzT hp (ZdC hp args))++ZwY hp.length hn)
  |false=>PureOK P h f j λV=>match h.mem f with
   |true=>k V (frzT hp (ZdC hp args))
   |false=>match ZzN V with
    |true=>k V hp
    |false=>False
def Zhd (c:Call) (tm:TM) (hp:List SM) (k:SV->List SM->Prop):Prop:=
 match evL tm c.args.toList with
 |none=>False
 |some vs=>match c.callee with
  | .builtin b=>match b,vs with
   | .len,[x]=>match c.argTypes.toList with
    |t::_=>ZLi T t x λV=>k V hp
    |_=>False
   | .min,x::r=>ZyC false r x λV=>k V hp
   | .max,x::r=>ZyC true r x λV=>k V hp
   | .append,[s,x]=>Zfs h T c.argTypes.toList hp s x k
   | .copy,[s,x]=>ZHs T c.argTypes.toList hp s x k
   | .clear,[s]=>ZD3 T c.argTypes.toList hp s k
   |_,_=>False
  | .value (.func f)=>ZbY P h f vs hp k
  | .value x=>match evS tm x with
   |some (.func f a d)=>ZbY P h f (a++vs++d) hp k
   |_=>False
  |_=>False
def ZCH (s:List UInt8):List (List UInt8)->List (List UInt8)
 | []=> [s]
 |k::r=>bif s==k then k::r else k::ZCH s r
def ZwO (s:List UInt8):List (List UInt8)->Bool
 | []=>false
 |k::r=>bif s==k then true else ZwO s r
def Zu7 {α:Type} (s:Int) (v:α):List (Int×α)->List (Int×α)
 | []=> [(s,v)]
 |k::r=>bif s==k.1 then(s,v)::r else k::Zu7 s v r
def Zin {α:Type} (z:α) (s:Int):List (Int×α)->α
 | []=>z
 |k::r=>bif s==k.1 then k.2 else Zin z s r
def ZJd (c e:CT) (h:ceq c e=true) (x:c.D):e.D:=cast (by rw[ZiB h]) x
def AV.is (u:TypeId):AV->Option SV
 | .nil=>none
 | .i t k n=>match Nat.beq t u with
  |true=>some (.v (.i k) n)
  |false=>none
 | .s t x=>match Nat.beq t u with
  |true=>some (.v .s x)
  |false=>none
def Zya (y:AV) (u:TypeId) (ok:Bool) (k:SV->Prop):Prop:=(λ_=>False) T
def opT (op:Op) (tm:TM) (hp:List SM) (k:SV->List SM->Prop):Prop:=
 match op with
 | .move x=>match evS tm x with
  |some V=>k V hp
  |none=>False
 | .assign x=>match evS tm x with
  |some V=>k V hp
  |none=>False
 | .pick c a b=>match evS tm c with
  |some (.v .b t)=>(t=true->match evS tm a with|some V=>k V hp|none=>False)/\(t=false->match evS tm b with|some V=>k V hp|none=>False)
  |_=>False
 | .alloc t=>match(T t).k with
  | .other=>False
  |_=>k (.ptr hp.length 0 0) (hp++ [.cell (T t).zero true])
 | .box _ x=>match evS tm x with
  |some V=>match Zcd V with
   |true=>k (.ptr hp.length 0 0) (hp++ [.cell (Zbr V) true])
   |false=>False
  |none=>False
 | .build t ps=>match ZpS tm ps.toList with
  |some l=>Zx7 T t l λV=>k V hp
  |none=>False
 | .buildSlice t n ps=>match ZpS tm ps.toList with
  |some l=>Zhn T t n l hp k
  |none=>False
 | .load t a=>match evS tm a with
  |some V=>Zon T t hp V λV=>k V hp
  |none=>False
 | .nilCheck x=>match evS tm x with
  |some (.ptr id i r)=>k (.ptr id i r) hp
  |some (.box t x r)=>k (.box t x r) hp
  |some (.func f a c)=>k (.func f a c) hp
  |_=>False
 | .binOp op t x y _=>match evS tm x,evS tm y with
  |some a,some b=>ZLg P T op t a b λV=>k V hp
  |_,_=>False
 | .unOp op _ x=>match evS tm x with
  |some a=>unT op a λV=>k V hp
  |none=>False
 | .convert s d x=>match evS tm x with
  |some a=>ZG5 T s d hp a λV=>k V hp
  |none=>False
 | .makeInterface t x=>match(T t).k,evS tm x with
  | .int _,some (.v (.i k') n)=>k (.v .any (AV.i t k' n)) hp
  | .str,some (.v .s s)=>k (.v .any (AV.s t s)) hp
  |_,_=>False
 | .typeAssert x _ u ok=>match evS tm x with
  |some (.v .any y)=>Zya T y u ok λV=>k V hp
  |_=>False
 | .makeFunc fn first C=>match fn with
  | .func f=>match evL tm first.toList,evL tm C.toList with
   |some a,some c=>k (.func f a c) hp
   |_,_=>False
  |_=>False
 | .makeSlice t l c=>Zjm T t l c tm hp k
 | .slice t x lo hi I=>match I,evS tm x with
  |none,some V=>ZuX T t tm hp V lo hi λV=>k V hp
  |some y,some V=>ZzC T t tm hp V lo hi (some y) λV=>k V hp
  |_,_=>False
 | .fieldAddr s x f=>match evS tm x with
  |some V=>Zi7 T s V f λV=>k V hp
  |none=>False
 | .field s x f=>match evS tm x with
  |some V=>ZEI T s V f λV=>k V hp
  |none=>False
 | .indexAddr t x j=>match evS tm x,evS tm j with
  |some V,some J=>ZeZ T t hp V J λV=>k V hp
  |_,_=>False
 | .index t x j=>match evS tm x,evS tm j with
  |some V,some J=>ZyM T t V J λV=>k V hp
  |_,_=>False
 | .extract x i=>match evS tm x with
  |some (.tup vs)=>match nth vs i with
   |some V=>k V hp
   |none=>False
  |_=>False
 | .call c=>Zhd P h T c tm hp k
 | .store t a x=>match evS tm a,evS tm x with
  |some A,some V=>ZjY T t hp A V k
  |_,_=>False
 | .makeMap t r=>match(T t).k,r with
  | .smap,none=>k (.mp hp.length) (hp++ [.set []])
  | .imap c,none=>k (.mp hp.length) (hp++ [.im c []])
  |_,_=>False
 | .lookup t x j ok=>match(T t).k,evS tm x,evS tm j,ok with
  | .smap,some (.mp id),some (.v .s s),false=>match nth hp id with
   |some (.set ks)=>k (.v .b (ZwO s ks)) hp
   |_=>False
  | .imap e,some (.mp id),some (.v (.i .i64) s),false=>match nth hp id with
   |some (.im c ks)=>if ceq c e=true then k (.v c (Zin c.z s ks)) hp else False
   |_=>False
  |_,_,_,_=>False
 | .mapUpdate t m j x=>match(T t).k,evS tm m,evS tm j,evS tm x with
  | .smap,some (.mp id),some (.v .s s),some (.v .b true)=>match nth hp id with
   |some (.set ks)=>k (.tup []) (hp.set id (.set (ZCH s ks)))
   |_=>False
  | .imap _,some (.mp id),some (.v (.i .i64) s),some (.v e x)=>match nth hp id with
   |some (.im c ks)=>if h:ceq e c=true then k (.tup []) (hp.set id (.im c (Zu7 s (ZJd e c h x) ks)))else False
   |_=>False
  |_,_,_,_=>False
 |_=>False
def ZcX (N:Nat) (dst:Option Tmp) (V:SV) (tm:TM) (k:TM->Prop):Prop:=
 match dst with
 |none=>k tm
 |some d=>match Nat.ble (d+1) N with
  |true=>k ((d,V)::tm)
  |false=>False
def wpOps (N:Nat) (ds:List (Option Tmp)):List Oper->TM->List SM->(TM->List SM->Prop)->Prop
 | [],tm,hp,k=>k tm hp
 |o::l,tm,hp,k=>match o.guard with
  |none=>opT P h T o.op tm hp λV hp'=>ZcX N o.dst V tm λtm'=>wpOps N ds l tm' hp' k
  |some (j,w)=>match nth ds j with
   |some (some d)=>match ZbJ d tm with
    |some (.v .b t)=>(t=w->opT P h T o.op tm hp λV hp'=>ZcX N o.dst V tm λtm'=>wpOps N ds l tm' hp' k)/\
     (t= !w->ZcX N o.dst (.tup []) tm λtm'=>wpOps N ds l tm' hp k)
    |some (.tup [])=>ZcX N o.dst (.tup []) tm λtm'=>wpOps N ds l tm' hp k
    |_=>False
   |_=>False
def ZeR (hp:List SM) (id:Nat):Bool:=match nth hp id with
 |some m=>live m
 |none=>false
def Zmj (id:Nat):List Nat->Bool
 | []=>false
 |j::r=>match Nat.beq id j with
  |true=>true
  |false=>Zmj id r
def Zc4 (hp:List SM):List Nat->Bool
 | []=>true
 |j::r=>ZeR hp j&&Zc4 hp r
def ZkN:List (Nat×Nat×Bool)->List Nat
 | []=> []
 |(_,id,true)::r=>id::ZkN r
 |(_,_,false)::r=>ZkN r
def ZHI:List (Nat×Nat×Bool)->List Nat
 | []=> []
 |(_,id,_)::r=>id::ZHI r
def ZKy (tm:TM) (c:Call):Option (Option Nat):=match c.callee with
 | .builtin .append=>match c.args.toList with
  |x::_=>match evS tm x with
   |some .nils=>some none
   |some (.ref id _ _ _)=>some (some id)
   |_=>none
  | []=>none
 |_=>none
def ZAr (o:Oper):List (Nat×Nat×Bool)->List (Nat×Nat×Bool)
 | []=> []
 |x::r=>match Zgo o x.1 with
  |true=>ZAr o r
  |false=>x::ZAr o r
def Zpd (o:Oper) (ks:List (Nat×Nat×Bool)):List (Nat×Nat×Bool):=
 match isW h o with
 |true=>ZAr o ks
 |false=>ks
def ZHN:SM->Option Nat
 | .row t _ _=>some t.w
 | .cell cs _=>some cs.length
 | .many _ _ _=>some 1
 | .set _=>none
 | .im _ _=>none
 | .dead=>none
def ZBx (hp hp':List SM):List (Nat×Nat×Bool)->Bool
 | []=>true
 |(_,id,_)::r=>match(nth hp id).bind ZHN,(nth hp' id).bind ZHN with
  |some a,some b=>Nat.beq a b&&ZBx hp hp' r
  |_,_=>false
def ZKp (tm:TM) (c:Call):Bool:=match c.callee with
 | .value (.func _)=>false
 | .value x=>match evS tm x with
  |some (.func f _ _)=> !h.opn f
  |_=>false
 |_=>false
def ZGC (b:Bool) (p:Prop):Prop:=match b with
 |true=>p
 |false=>False
def ZLM (tm:TM) (c:Call):Bool:=match c.callee with
 | .builtin .min=>true
 | .builtin .max=>true
 | .builtin .len=>match evL tm c.args.toList with
  |some [.v (.l _) _]=>true
  |some [.nils]=>true
  |some [.ref _ _ _ _]=>true
  |_=>false
 |_=>false
def ZaL (N:Nat) (ls:List Nat):List Oper->Nat->List (Nat×Nat×Bool)->TM->List SM->(TM->List SM->Prop)->Prop
 | [],_,_,tm,hp,k=>k tm hp
 |o::l,i,ks,tm,hp,k=>match has i ls with
  |true=>match o.op with
   | .load t a=>match evS tm a with
    |some (.ptr id _ _)=>opT P h T (.load t a) tm hp λV hp'=>ZcX N o.dst V tm λtm'=>ZaL N ls l (i+1) ((i,id,true)::ks) tm' hp' k
    |some (.box _ _ _)=>opT P h T (.load t a) tm hp λV hp'=>ZcX N o.dst V tm λtm'=>ZaL N ls l (i+1) ks tm' hp' k
    |_=>False
   | .move x=>opT P h T (.move x) tm hp λV hp'=>ZcX N o.dst V tm λtm'=>ZaL N ls l (i+1) ks tm' hp' k
   | .indexAddr t x j=>match evS tm x with
    |some (.ref id _ _ _)=>opT P h T (.indexAddr t x j) tm hp λV hp'=>ZcX N o.dst V tm λtm'=>ZaL N ls l (i+1) ((i,id,false)::ks) tm' hp' k
    |some (.v (.l _) _)=>opT P h T (.indexAddr t x j) tm hp λV hp'=>ZcX N o.dst V tm λtm'=>ZaL N ls l (i+1) ks tm' hp' k
    |some (.ptr _ _ _)=>opT P h T (.indexAddr t x j) tm hp λV hp'=>ZcX N o.dst V tm λtm'=>ZaL N ls l (i+1) ks tm' hp' k
    |_=>False
   | .binOp bo t x y z=>opT P h T (.binOp bo t x y z) tm hp λV hp'=>ZcX N o.dst V tm λtm'=>ZaL N ls l (i+1) ks tm' hp' k
   | .slice t x lo hi J=>match evS tm x with
    |some (.v (.l _) _)=>opT P h T (.slice t x lo hi J) tm hp λV hp'=>ZcX N o.dst V tm λtm'=>ZaL N ls l (i+1) ks tm' hp' k
    |_=>False
   | .call c=>match ZLM tm c with
    |true=>opT P h T (.call c) tm hp λV hp'=>ZcX N o.dst V tm λtm'=>ZaL N ls l (i+1) ks tm' hp' k
    |false=>False
   |_=>False
  |false=>match Zpd h o ks with
   | []=>opT P h T o.op tm hp λV hp'=>ZcX N o.dst V tm λtm'=>ZaL N ls l (i+1) [] tm' hp' k
   |y::C=>match isW h o with
    |false=>opT P h T o.op tm hp λV hp'=>ZcX N o.dst V tm λtm'=>ZaL N ls l (i+1) (y::C) tm' hp' k
    |true=>match ZkN (y::C)with
     | []=>opT P h T o.op tm hp λV hp'=>ZGC (ZBx hp hp' (y::C)) (ZcX N o.dst V tm λtm'=>ZaL N ls l (i+1) (y::C) tm' hp' k)
     |id0::ids=>match o.op with
      | .store t a x=>match evS tm a with
       |some (.ptr I j r)=>match ZeR hp I&&Zc4 hp (id0::ids)&& !Zmj I (id0::ids)with
        |true=>opT P h T (.store t a x) tm hp λV hp'=>ZcX N o.dst V tm λtm'=>ZaL N ls l (i+1) (y::C) tm' hp' k
        |false=>False
       |_=>False
      | .call c=>match ZKp h tm c with
       |true=>opT P h T (.call c) tm hp λV hp'=>ZcX N o.dst V tm λtm'=>ZaL N ls l (i+1) (y::C) tm' hp' k
       |false=>match ZKy tm c with
        |some none=>opT P h T (.call c) tm hp λV hp'=>ZcX N o.dst V tm λtm'=>ZaL N ls l (i+1) (y::C) tm' hp' k
        |some (some I)=>match ZeR hp I&&Zc4 hp (ZHI (y::C))&& !Zmj I (ZHI (y::C))with
         |true=>opT P h T (.call c) tm hp λV hp'=>ZcX N o.dst V tm λtm'=>ZaL N ls l (i+1) (y::C) tm' hp' k
         |false=>False
        |none=>False
      |_=>False
def ZIU:List Oper->List (Option Tmp)
 | []=> []
 |o::r=>o.dst::ZIU r
def ZHB (k:Ex->TM->List SM->Prop) (next:TM->List SM->Prop):Ex->TM->List SM->Prop
 | .normal,tm,hp=>next tm hp
 |e,tm,hp=>k e tm hp
def ZAP (id:Nat) (k:Ex->TM->List SM->Prop):Ex->TM->List SM->Prop
 | .exit j,tm,hp=>match Nat.beq j id with
  |true=>k .normal tm hp
  |false=>k (.exit j) tm hp
 |e,tm,hp=>k e tm hp
def wpR (N:Nat) (ls:List Nat) (ops:Array Oper) (tm:TM) (hp:List SM) (k:TM->List SM->Prop):Prop:=
 match ls with
 | []=>wpOps P h T N (ZIU ops.toList) ops.toList tm hp k
 |j::ls=>match noG ops.toList with
  |true=>ZaL P h T N (j::ls) ops.toList 0 [] tm hp k
  |false=>False
def wp (F:Nat) (c:Cx):Code->TM->List SM->(Ex->TM->List SM->Prop)->Prop
 | .skip,tm,hp,k=>k .normal tm hp
 | .label _,tm,hp,k=>k .normal tm hp
 | .region id ops _,tm,hp,k=>match h.perm c.fid id with
  | []=>wpR P h T c.N (h.light c.fid id) ops tm hp λtm' hp'=>k .normal tm' hp'
  |i::r=>wpR P h T c.N (h.light c.fid id) (rgo (i::r) ops) tm hp λtm' hp'=>k .normal tm' hp'
 | .seq a b,tm,hp,k=>wp F c a tm hp (ZHB k λtm' hp'=>wp F c b tm' hp' k)
 | .cond x a b,tm,hp,k=>match evS tm x with
  |some (.v .b t)=>(t=true->wp F c a tm hp k)/\(t=false->wp F c b tm hp k)
  |_=>False
 | .block id b,tm,hp,k=>match h.keepB c.fid id with
  |none=>wp F c b tm hp (ZAP id k)
  |some _=>False
 | .loop b,tm,hp,k=>LoopOK P h F c b tm hp k
 | .exit id,tm,hp,k=>k (.exit id) tm hp
 | .ret,tm,hp,k=>k .ret tm hp
 |_,_,_,_=>False
def ZHH (tm:TM) (hp:List SM):List ResultVar->(List SV->Prop)->Prop
 | [],k=>k []
 | .tmp t::r,k=>match ZbJ t tm with
  |some V=>ZHH tm hp r λl=>k (V::l)
  |none=>False
 | .cell a t::r,k=>match ZbJ a tm with
  |some V=>Zon T t hp V λV=>ZHH tm hp r λl=>k (V::l)
  |none=>False
def ZLW:List SV->SV
 | [V]=>V
 |l=> .tup l
def ZcQ:Nat->List SV->TM
 |_,[]=> []
 |i,V::r=>(i,V)::ZcQ (i+1) r
def ZjR (rs:List ResultVar) (k:SV->List SM->Prop):Ex->TM->List SM->Prop
 | .exit _,_,_=>False
 |_,tm,hp=>ZHH T tm hp rs λl=>k (ZLW l) hp
inductive Im where
 |is (id:Nat)|nil
def ZI3:(t C:CT)->List t.D->List C.D->Prop
 | .i k, .i k',l,j=>match keq k k' with
  |true=>j=l
  |false=>False
 | .b, .b,l,j=>j=l
 | .s, .s,l,j=>j=l
 |t,C,l,j=>if h:ceq t C=true then j=Zj1 t C h l else False
def ZKB (σ:List Im):SV->SV->Prop
 | .v (.i k) x, .v (.i k') C=>match keq k k' with
  |true=>C=x
  |false=>False
 | .v .b x, .v .b C=>C=x
 | .v .s x, .v .s C=>C=x
 | .v .any x, .v .any C=>C=x
 | .v (.l e) x, .v (.l R) C=>ZI3 e R x C
 | .nils, .v (.l t) C=>C=([]:List t.D)
 | .nils, .nils=>True
 | .nilp, .nilp=>True
 | .nilf, .nilf=>True
 | .nili, .nili=>True
 | .nils, .ref j i' n' I=>match nth σ j with
  |some .nil=>i'=0/\n'=0/\I.getD n'=0
  |_=>False
 | .ref id i n m, .ref j i' n' I=>match nth σ j with
  |some (.is d)=>match Nat.beq d id with
   |true=>i'=i/\n'=n/\I.getD n'=m.getD n
   |false=>False
  |_=>False
 | .ptr id i r, .ptr j i' J=>match nth σ j with
  |some (.is d)=>match Nat.beq d id with
   |true=>i'=i/\J=r
   |false=>False
  |_=>False
 | .box t x r, .box U C J=>ZI3 t U [x] [C]/\J=r
 |_,_=>False
def Zr5 (σ:List Im):List SV->List SV->Prop
 | [],[]=>True
 |a::l,b::r=>ZKB σ a b/\Zr5 σ l r
 |_,_=>False
def ZKr (σ:List Im):SV->SV->Prop
 | .func f a c, .func C I J=>C=f/\Zr5 σ a I/\Zr5 σ c J
 | .agg cs, .agg j=>Zr5 σ cs j
 | .tup cs, .tup j=>Zr5 σ cs j
 |a,b=>ZKB σ a b
def ZzR (σ:List Im) (tm:TM):TM->Prop
 | []=>True
 |(i,V')::r=>match ZbJ i tm with
  |some V=>ZKr σ V V'/\ZzR σ tm r
  |none=>False
def ZLc (σ:List Im) (hp:List SM):Im->SM->Prop
 | .is id, .row J j C=>match nth hp id with
  |some (.row t l m)=>ZI3 t J l j/\(C=true->m=true)
  |_=>False
 | .nil, .row _ j _=>j=[]
 | .is id, .cell I C=>match nth hp id with
  |some (.cell cs m)=>Zr5 σ cs I/\(C=true->m=true)
  |_=>False
 |_, .dead=>True
 |_,_=>False
def ZAf (σ:List Im) (hp:List SM):List Im->List SM->Prop
 |_,[]=>True
 | [],_=>False
 |s::ss,m::ms=>ZLc σ hp s m/\ZAf σ hp ss ms
def ZhH:List Im->Bool
 | []=>true
 | .nil::r=>ZhH r
 | .is i::r=>(r.all λx=>match x with| .is j=> !Nat.beq i j| .nil=>true)&&ZhH r
def ZqI:Nat->List Im->Bool
 |0,_=>true
 |F+1,l=>match nth l F with
  |some (.is i)=>Nat.beq i F&&ZqI F l
  |_=>false
def ZH3 (j:Nat):SV->SV->Option Im
 |a, .ref C _ _ _=>match Nat.beq C j with
  |true=>match a with
   | .ref id _ _ _=>some (.is id)
   | .nils=>some .nil
   |_=>none
  |false=>none
 |a, .ptr C _ _=>match Nat.beq C j with
  |true=>match a with
   | .ptr id _ _=>some (.is id)
   |_=>none
  |false=>none
 |_,_=>none
def Ztb (j:Nat):List SV->List SV->Option Im
 |a::l,b::r=>match ZH3 j a b with
  |some x=>some x
  |none=>Ztb j l r
 |_,_=>none
def ZKV (j:Nat):SV->SV->Option Im
 | .agg cs, .agg C=>Ztb j cs C
 | .func _ a c, .func _ I J=>Ztb j (a++c) (I++J)
 |a,b=>ZH3 j a b
def ZDs (j:Nat) (tm:TM):TM->Option Im
 | []=>none
 |(i,V')::r=>match ZbJ i tm with
  |some V=>match ZKV j V V' with
   |some x=>some x
   |none=>ZDs j tm r
  |none=>ZDs j tm r
def ZyK (j:Nat) (hp:List SM) (σ:Nat->Option Im):Nat->List SM->Option Im
 |_,[]=>none
 |n, .cell C _::r=>match σ n with
  |some (.is id)=>match nth hp id with
   |some (.cell cs _)=>match Ztb j cs C with
    |some x=>some x
    |none=>ZyK j hp σ (n+1) r
   |_=>ZyK j hp σ (n+1) r
  |_=>ZyK j hp σ (n+1) r
 |n,_::r=>ZyK j hp σ (n+1) r
def ZKa (tm tm':TM) (hp hp':List SM):Nat->List SM->List Im
 |_,[]=> []
 |j,m::r=>(match m with
  | .dead=> .nil
  |_=>match ZDs j tm tm' with
   |some s=>s
   |none=>match ZyK j hp (λn=>ZDs n tm tm') 0 hp' with
    |some s=>s
    |none=> .nil)::ZKa tm tm' hp hp' (j+1) r
structure Ent (F:Nat) (tm:TM) (hp:List SM) (tm':TM) (hp':List SM):Prop where
 out: ∀φ st,F<=φ.length->SRep φ tm hp st-> ∃φ',Fr F φ φ'/\SRep φ' tm' hp' st
end
def All2.len {α β:Type} {R:α->β->Prop}: ∀ {l:List α} {m:List β},All2 R l m->l.length=m.length
 | [],[],_=>rfl
 |_::_,_::_,h=>by simp[Xao,All2.len h.2]
def All2.get {α β:Type} {R:α->β->Prop}: ∀ {l:List α} {m:List β} {i:Nat} {x:α},All2 R l m->l[i]? =some x-> ∃y,m[i]? =some y/\R x y
 | [],[],_,_,_,h=>by simp at h
 |a::l,b::m,0,x,h,j=>by simp at j;subst j;exact⟨b,rfl,h.1⟩
 |a::l,b::m,i+1,x,h,j=>by simp at j|-;exact All2.get h.2 j
def All2.set {α β:Type} {R:α->β->Prop} {x:α} {y:β} (j:R x y): ∀ {l:List α} {m:List β} (i:Nat),All2 R l m->All2 R (l.set i x) (m.set i y)
 | [],[],_,_=>trivial
 |a::l,b::m,0,h=>⟨j,h.2⟩
 |a::l,b::m,i+1,h=>⟨h.1,All2.set j i h.2⟩
theorem All2.app {α β:Type} {R:α->β->Prop}: ∀ {l j:List α} {m C:List β},All2 R l m->All2 R j C->All2 R (l++j) (m++C)
 | [],_,[],_,_,h=>h
 |_::_,_,_::_,_,h,I=>⟨h.1,All2.app h.2 I⟩
theorem All2.drop {α β:Type} {R:α->β->Prop}: ∀ {l:List α} {m:List β} (i:Nat),All2 R l m->All2 R (l.drop i) (m.drop i)
 |l,m,0,h=>by simpa using h
 | [],[],_+1,_=>trivial
 |_::_,_::_,i+1,h=>All2.drop i h.2
theorem All2.take {α β:Type} {R:α->β->Prop}: ∀ {l:List α} {m:List β} (i:Nat),All2 R l m->All2 R (l.take i) (m.take i)
 |l,m,0,h=>by simp[XbV];trivial
 | [],[],_+1,_=>trivial
 |_::_,_::_,i+1,h=>⟨h.1,All2.take i h.2⟩
def All2.sub {α β:Type} {R:α->β->Prop} {l:List α} {m:List β} (i n:Nat) (h:All2 R l m):All2 R (sub l i n) ((m.drop i).take n):=All2.take n (All2.drop i h)
def All2.rep {α β:Type} {R:α->β->Prop} {x:α} {y:β} (j:R x y): ∀n,All2 R (List.replicate n x) (List.replicate n y)
 |0=>trivial
 |n+1=>⟨j,All2.rep j n⟩
def All2.spl {α β:Type} {R:α->β->Prop} {l j:List α} {m C:List β} (i:Nat) (h:All2 R l m) (I:All2 R j C):All2 R (spl l i j) (splice m i C):=by unfold Tx.spl splice;rw[<-I.len];grind [All2.app,All2.take,All2.drop]
def All2.imp {α β:Type} {R Q:α->β->Prop} (j: ∀a b,R a b->Q a b): ∀ {l:List α} {m:List β},All2 R l m->All2 Q l m
 | [],[],_=>trivial
 |_::_,_::_,h=>⟨j _ _ h.1,All2.imp j h.2⟩
def All2.mem {α β:Type} {R:α->β->Prop} {y:β}: ∀ {l:List α} {m:List β},All2 R l m->y∈m-> ∃x,x∈l/\R x y
 | [],[],_,hy=>by simp at hy
 | [],_::_,h,_=>h.elim
 |a::l,b::m,h,hy=>by rcases XaF.1 hy with rfl|hy;exact⟨a,Xah,h.1⟩;(let⟨x,j,C⟩:=All2.mem h.2 hy);grind
theorem ZaA {α:Type}: ∀ (l:List α) (n:Nat),nth l n=l[n]?
 | [],_=>by simp[nth]
 |_::_,0=>rfl
 |_::l,n+1=>by simpa[nth]using ZaA l n
def RR.len: ∀ {t:CT} {x:t.D} {cs:List PV},RR t x cs->cs.length=t.w
 | .i _,_,_,h| .b,_,_,h| .s,_,_,h| .any,_,_,h=>by simp only[RR]at h;subst h;rfl
 | .l _,_,_,h=>by simp only[RR]at h;rcases h with⟨rfl,_⟩|⟨es,rfl,_⟩<;>rfl
 | .p a c,x,cs,h=>by simp only[RR]at h;obtain⟨u,v,rfl,j,C⟩:=h;rw[Xal,RR.len j,RR.len C];rfl
def Zeg:PV->Bool
 | .bool _| .int _ _| .str _| .nils| .lst _| .nili| .ifc _ _=>true
 |_=>false
def RR.plain: ∀ {t:CT} {x:t.D} {cs:List PV},RR t x cs-> ∀q∈cs,Zeg q=true
 | .i _,_,_,h,q,hq| .b,_,_,h,q,hq| .s,_,_,h,q,hq=>by simp only[RR]at h;subst h;rw[Xav.1 hq];rfl
 | .any,x,_,h,q,hq=>by simp only[RR]at h;subst h;rw[Xav.1 hq];cases x<;>rfl
 | .l _,_,_,h,q,hq=>by simp only[RR]at h;rcases h with⟨rfl,_⟩|⟨es,rfl,_⟩<;>(rw[Xav.1 hq];rfl)
 | .p a c,x,cs,h,q,hq=>by simp only[RR]at h;obtain⟨u,v,rfl,j,C⟩:=h;rcases XaO.1 hq with hq|hq;exact RR.plain j q hq;exact RR.plain C q hq
def Le.refl (φ:Ph):Le φ φ:=λ_ _ h=>h
def Le.trans {a b c:Ph} (h:Le a b) (j:Le b c):Le a c:=λi o hi=>j i o (h i o hi)
theorem Le.app (φ j:Ph):Le φ (φ++j):=λi o h=>by grind
def Le.fr {φ φ':Ph} (h:Le φ φ') {F:Nat} (j:F<=φ.length):Fr F φ φ':=λid hid=>by have:φ[id]? =some φ[id]:=Xac oM;rw[this];exact h _ _ this
def Fr.refl (F:Nat) (φ:Ph):Fr F φ φ:=λ_ _=>rfl
def Fr.trans {F:Nat} {a b c:Ph} (h:Fr F a b) (j:Fr F b c):Fr F a c:=λi hi=>(j i hi).trans (h i hi)
def Fr.le {φ φ':Ph} {F:Nat} (h:Fr F φ φ') (j:φ.length<=F):Le φ φ':=λid o ho=>by rw[h id (XaW (Xaf.1 ho).1 j)];exact ho
mutual
theorem RV.mono {φ φ':Ph} (hl:Le φ φ'): ∀ (V:SV) (q:PV),RV φ V q->RV φ' V q
 | .v _ _,_,h| .nilp,_,h| .nils,_,h| .nilf,_,h| .nili,_,h| .nilmp,_,h| .box _ _ _,_,h=>by simpa only[RV]using h
 | .ref id i n m,q,h=>by simp only[RV]at h|-;rcases h with⟨a,j,C⟩|⟨j,C⟩;exact .inl ⟨a,hl _ _ j,C⟩;exact .inr ⟨hl _ _ j,C⟩
 | .ptr id i r,q,h=>by simp only[RV]at h|-;obtain⟨a,j,C⟩:=h;exact⟨a,hl _ _ j,C⟩
 | .func f a c,q,h=>by simp only[RV]at h|-;obtain⟨J,R,j,C,U⟩:=h;exact⟨J,R,j,RL.mono hl a J C,RL.mono hl c R U⟩
 | .agg cs,q,h=>by simp only[RV]at h|-;obtain⟨I,j,C⟩:=h;exact⟨I,j,RL.mono hl cs I C⟩
 | .tup cs,q,h=>by simp only[RV]at h|-;obtain⟨I,j,C⟩:=h;exact⟨I,j,RL.mono hl cs I C⟩
 | .mp id,q,h=>by simp only[RV]at h|-;obtain⟨a,j,C⟩:=h;exact⟨a,hl _ _ j,C⟩
theorem RL.mono {φ φ':Ph} (hl:Le φ φ'): ∀ (l:List SV) (j:List PV),RL φ l j->RL φ' l j
 | [],_,h=>by simpa only[RL]using h
 |v::vs,j,h=>by simp only[RL]at h|-;obtain⟨q,r,C,I,J⟩:=h;exact⟨q,r,C,RV.mono hl v q I,RL.mono hl vs r J⟩
end
def RL.len {φ}: ∀ {l:List SV} {j:List PV},RL φ l j->l.length=j.length
 | [],_,h=>by simp only[RL]at h;subst h;rfl
 |v::vs,_,h=>by simp only[RL]at h;obtain⟨q,r,rfl,_,C⟩:=h;simp only[Xao,RL.len C]
def RL.get {φ}: ∀ {l:List SV} {j:List PV} {i:Nat} {V:SV},RL φ l j->l[i]? =some V-> ∃q,j[i]? =some q/\RV φ V q
 | [],_,_,_,_,hi=>by simp at hi
 |v::vs,_,i,V,h,hi=>by obtain⟨q,r,rfl,C,I⟩:=h;cases i with|zero=>simp at hi;subst hi;exact⟨q,rfl,C⟩|succ i=>simp at hi|-;exact RL.get I hi
theorem RL.app {φ}: ∀ {l m:List SV} {C rs:List PV},RL φ l C->RL φ m rs->RL φ (l++m) (C++rs)
 | [],_,_,_,h,j=>by simp only[RL]at h;subst h;exact j
 |v::vs,_,_,_,h,j=>by simp only[RL]at h;obtain⟨q,r,rfl,I,J⟩:=h;simp only[Xa5,RL];exact⟨q,_,rfl,I,RL.app J j⟩
theorem RL.drop {φ}: ∀ {l:List SV} {j:List PV} (n:Nat),RL φ l j->RL φ (l.drop n) (j.drop n)
 |l,j,0,h=>by simpa using h
 | [],_,n+1,h=>by simp only[RL]at h;subst h;simp[RL]
 |v::vs,_,n+1,h=>by simp only[RL]at h;obtain⟨q,r,rfl,I,C⟩:=h;simpa using RL.drop n C
theorem RL.take {φ}: ∀ {l:List SV} {j:List PV} (n:Nat),RL φ l j->RL φ (l.take n) (j.take n)
 |l,j,0,h=>by simp[RL]
 | [],_,n+1,h=>by simp only[RL]at h;subst h;simp[RL]
 |v::vs,_,n+1,h=>by simp only[RL]at h;obtain⟨q,r,rfl,C,I⟩:=h;simp only[List.take_succ_cons,RL];exact⟨q,_,rfl,C,RL.take n I⟩
def RL.spl {φ l m j rs} i (h:RL φ l j) (C:RL φ m rs):RL φ (spl l i m) (splice j i rs):=by unfold Tx.spl splice;rw[<-C.len];grind [RL.app,RL.take,RL.drop]
def Ziv {φ}: ∀ {t:CT} {x:t.D} {cs:List PV},RR t x cs->RL φ (ZaW t x) cs
 | .i k,x,cs,h=>by have j:=h;simp only[RR]at j;subst j;simp only[ZaW,RL];exact⟨_,_,rfl,h,rfl⟩
 | .b,x,cs,h=>by have j:=h;simp only[RR]at j;subst j;simp only[ZaW,RL];exact⟨_,_,rfl,h,rfl⟩
 | .s,x,cs,h=>by have j:=h;simp only[RR]at j;subst j;simp only[ZaW,RL];exact⟨_,_,rfl,h,rfl⟩
 | .any,x,cs,h=>by have j:=h;simp only[RR]at j;subst j;simp only[ZaW,RL];exact⟨_,_,rfl,h,rfl⟩
 | .l e,x,cs,h=>by have j:=h;simp only[RR]at j;rcases j with⟨rfl,_⟩|⟨es,rfl,_⟩<;>(simp only[ZaW,RL];exact⟨_,_,rfl,h,rfl⟩)
 | .p a c,x,cs,h=>by simp only[RR]at h;obtain⟨u,v,rfl,C,I⟩:=h;simp only[ZaW];exact RL.app (Ziv C) (Ziv I)
def Zh6 {e j} (h:ceq e j=true) xs {es} (C:All2 (RR e) xs es):All2 (RR j) (Zj1 e j h xs) es:=by have he:=ZiB h;subst he;exact C
def RL1 {φ V j} (h:RL φ [V] j): ∃q,j=[q]/\RV φ V q:=by simp only[RL]at h;grind
def ZdV {φ:Ph}: ∀ {t:CT} {cs:List SV} {x:t.D} {I:List PV},Zb9 t cs=some x->RL φ cs I->RR t x I
 | .p a c,cs,x,I,h,C=>by simp only[Zb9]at h;split at h;rename_i y U;split at h;rename_i z hz;cases h;simp only[RR];exact⟨_,_,(Xbc a.w I).symm,ZdV U (RL.take _ C),ZdV hz (RL.drop _ C)⟩;cases h;cases h
 | .i k,cs,x,I,h,C=>by simp only[Zb9]at h;split at h;rename_i k' y;(cases J:keq k k' with|false=>rw[J]at h;cases h|true=>rw[J]at h;cases h;obtain⟨q,rfl,j⟩:=RL1 C;rw[Zg6 J];simpa only[RV]using j);cases h
 | .b,cs,x,I,h,C=>by simp only[Zb9]at h;split at h;cases h;obtain⟨q,rfl,j⟩:=RL1 C;simpa only[RV]using j;cases h
 | .s,cs,x,I,h,C=>by simp only[Zb9]at h;split at h;cases h;obtain⟨q,rfl,j⟩:=RL1 C;simpa only[RV]using j;cases h
 | .any,cs,x,I,h,C=>by simp only[Zb9]at h;split at h;cases h;obtain⟨q,rfl,j⟩:=RL1 C;simpa only[RV]using j;cases h;obtain⟨q,rfl,j⟩:=RL1 C;simp only[RV]at j;subst j;rfl;cases h
 | .l e,cs,x,I,h,C=>by simp only[Zb9]at h;split at h;rename_i e' y;split at h;rename_i he;cases h;obtain⟨q,rfl,j⟩:=RL1 C;simp only[RV,RR]at j|-;have R:=ZiB he;subst R;exact j;cases h;cases h;obtain⟨q,rfl,j⟩:=RL1 C;simp only[RV]at j;subst j;show _\/_;exact .inl ⟨rfl,rfl⟩;cases h
def KM (P:Program) (t:TypeId):TK->Prop
 | .int k=>P.underlying t=some (.int k)
 | .bool=>P.underlying t=some .bool
 | .str=>P.underlying t=some .string
 | .slice e=>P.underlying t=some (.slice e)
 | .arr n e=>P.underlying t=some (.array n e)
 | .struct j=> ∃a,P.underlying t=some (.struct a)/\(j.map λx=>(x.1,x.2.1))=a.toList.map (λf=>(f.offset,f.type))/\ ∀x∈j,Zbi P x.2.1=some x.2.2
 | .ptr=> ∃e,P.underlying t=some (.pointer e)
 | .func=> ∃ps rs v,P.underlying t=some (.func ps rs v)
 | .smap=> ∃k e,P.underlying t=some (.map k e)/\Zjs P t=some (.string,e)/\Zef P e=some (.bool false)
 | .imap c=> ∃k e z,P.underlying t=some (.map k e)/\Zjs P t=some (.int .i64,e)/\Zef P e=some z/\RR c c.z [z]
 | .any=> ∃x,P.underlying t=some (.interface x)
 | .other=>True
structure TIok (P:Program) (t:TypeId) (i:TI):Prop where
 k:KM P t i.k
 sz:Zbi P t=some i.sz
 by_:ZlH P t=some i.by_
 zero: ∃zs,Zek P t=some zs/\(∀φ,RL φ i.zero zs)/\zs.length=i.sz
 ct: ∀c,i.ct=some c->c.w=i.sz/\ ∀zs,Zek P t=some zs->RR c c.z zs
 zi: ∀k,i.k= .int k->Zef P t=some (.int k 0)
 zs:i.k= .str->Zef P t=some (.str ⟨#[]⟩)
def TysOK (P:Program) (T:TypeId->TI):Prop:= ∀t,(T t).k= .other\/TIok P t (T t)
def TysOK.get {P:Program} {T:TypeId->TI} (h:TysOK P T) {t:TypeId} {k:TK} (j:(T t).k=k) (ho:k≠ .other):TIok P t (T t):=by rcases h t with h|h;grind;exact h
def ValOK (φ:Ph) (k:SV->Prop) (r:Option PV):Prop:= ∃q V,r=some q/\RV φ V q/\k V
def OutOK (φ:Ph) (k:SV->List SM->Prop) (r:Zo7):Prop:= ∃q H' φ' V hp',r=some (q,H')/\Le φ φ'/\RH φ' hp' (λa=>H'[a]?)/\RV φ' V q/\k V hp'
def ValOK.mk {φ:Ph} {k:SV->Prop} {q:PV} {V:SV} (h:RV φ V q) (j:k V):ValOK φ k (some q):=⟨q,V,rfl,h,j⟩
def OutOK.of_val {φ:Ph} {k:SV->List SM->Prop} {hp:List SM} {H:List Mem} {r:Option PV} (j:RH φ hp (λa=>H[a]?)) (h:ValOK φ (λV=>k V hp) r):OutOK φ k (Zcz H r):=by obtain⟨q,V,rfl,C,I⟩:=h;exact⟨q,H,φ,V,hp,rfl,Le.refl φ,j,C,I⟩
section
variable {P:Program} {T:TypeId->TI} {φ:Ph}
def Zc0 {k:IntKind} {n:Int} {q:PV} (h:RV φ (.v (.i k) n) q):q= .int k n:=by simp only[RV,RR]at h;exact List.cons.inj h|>.1
def Zff {b:Bool} {q:PV} (h:RV φ (.v .b b) q):q= .bool b:=by simp only[RV,RR]at h;exact List.cons.inj h|>.1
def ZfH {s:List UInt8} {q:PV} (h:RV φ (.v .s s) q):q= .str ⟨s.toArray⟩:=by simp only[RV,RR]at h;exact List.cons.inj h|>.1
theorem ZjN {e:CT} {xs:List e.D} {q:PV} (h:RV φ (.v (.l e) xs) q):(q= .nils/\xs=[])\/ ∃es,q= .lst es/\All2 (RR e) xs es:=by simp[RV,RR,List.cons.injEq,and_true]at h;exact h
def vi (k:IntKind) (n:Int):RV φ (.v (.i k) n) (.int k n):=by simp[RV,RR]
def vb (b:Bool):RV φ (.v .b b) (.bool b):=by simp[RV,RR]
def vs (s:List UInt8):RV φ (.v .s s) (.str ⟨s.toArray⟩):=by simp[RV,RR]
def vs' (s:ByteArray):RV φ (.v .s s.data.toList) (.str s):=by simp[RV,RR]
def ZGy {op:BinOp} {C I:IntKind} {a b:Int} {k:SV->Prop} (h:ZKT op C a I b k):ValOK φ k (ZlA op C a I b):=by
 unfold ZKT at h;split at h;simp[ZlA];rw[if_neg oM];exact .mk (vi _ _) h.2;simp[ZlA];rw[if_neg oM];exact .mk (vi _ _) h.2
 ·split at h;cases h
  ·rename_i j;have j:=Zg6 j;subst j;cases op<;>simp[ZlA,if_true]at h|- <;>first
    |exact .mk (vi _ _) h
    |exact .mk (vb _) h
    |(rw[if_neg h.1];exact .mk (vi _ _) h.2)
    |(cases h;done)
    |skip
def ZyE (s:List UInt8):(ByteArray.mk s.toArray).data.toList=s:=sM
def ZxM (s:List UInt8):(ByteArray.mk s.toArray).size=s.length:=by simp[ByteArray.size]
def ZJl (a b:List UInt8):ByteArray.mk a.toArray++ByteArray.mk b.toArray=ByteArray.mk (a++b).toArray:=by apply ByteArray.ext;simp_all
def ZKf (s:List UInt8) (l u:Nat):(ByteArray.mk s.toArray).extract l u=ByteArray.mk ((s.take u).drop l).toArray:=by apply ByteArray.ext;simp_all [Array.ext',List.drop_take]
def ZFV {op:BinOp} {a b:List UInt8} {k:SV->Prop} (h:ZLQ op a b k):ValOK φ k (Zp1 op ⟨a.toArray⟩ ⟨b.toArray⟩):=by
 unfold ZLQ at h;cases op<;>simp[Zp1,ZyE,ZxM]at h|- <;>first
  |(rw[if_pos h.1,ZJl];exact .mk (vs _) h.2)
  |exact .mk (vb _) h
  |(cases h;done)
theorem ZgY {op:BinOp} {r:Bool} {k:SV->Prop} (h:eqB op r k):ValOK φ k (ZrR op r):=by
 cases op<;>simp[ZrR]at h|- <;>first
  |exact .mk (vb _) h
  |(cases h;done)
end
section
variable {P:Program} {T:TypeId->TI} {φ:Ph} {hp:List SM} {H:List Mem}
def RH.ph {L:Nat->Option Mem} (j:RH φ hp L) {id:Nat} {sm:SM} (h:nth hp id=some sm): ∃o,φ[id]? =some o/\RM φ L o sm:=by rw[ZaA]at h;have hi:=(Xaf.1 h).1;rw[<-j.len]at hi;exact⟨φ[id],Xac hi,j.row _ _ _ h (Xac hi)⟩
def RH.ref {L:Nat->Option Mem} (R:RH φ hp L) {id i n:Nat} {j:Option Nat} {t:CT} {l:List t.D} {m:Bool} {q:PV} (h:nth hp id=some (.row t l m)) (U:RV φ (.ref id i n j) q):
 (∃a es I,q= .ref a i n (j.getD n)/\φ[id]? =some (some a)/\L a=some (.row es t.w I)/\All2 (RR t) l es/\(m=true->I=true))\/(q= .nils/\l=[]/\i=0/\n=0/\j.getD n=0/\φ[id]? =some none):=by
 let⟨o,ho,J⟩:=R.ph h
 rcases U with⟨a,C,h2⟩|⟨C,h2,h3,h4,h5⟩;rw[C]at ho;cases ho;simp only[RM]at J;grind;rw[C]at ho;cases ho;simp[RM]at J;grind
def RH.refC {L:Nat->Option Mem} (J:RH φ hp L) {id i n:Nat} {C:Option Nat} {cs:List SV} {m:Bool} {q:PV} (h:nth hp id=some (.cell cs m)) (R:RV φ (.ref id i n C) q):
 ∃a j I,q= .ref a i n (C.getD n)/\φ[id]? =some (some a)/\L a=some (.row [j] j.length I)/\RL φ cs j/\(m=true->I=true):=by
 let⟨o,ho,U⟩:=J.ph h
 simp[RV]at R;simp only[RM]at U;grind
def RH.ptr {L:Nat->Option Mem} (C:RH φ hp L) {id i r:Nat} {t:CT} {l:List t.D} {m:Bool} {q:PV} (h:nth hp id=some (.row t l m)) (I:RV φ (.ptr id i r) q):
 ∃a es j,q= .ptr a i r/\φ[id]? =some (some a)/\L a=some (.row es t.w j)/\All2 (RR t) l es/\(m=true->j=true):=by
 let⟨o,ho,J⟩:=C.ph h
 let⟨a,R,U⟩:=I
 simp only[RM]at J;grind
def RH.ptrC {L:Nat->Option Mem} (I:RH φ hp L) {id i r:Nat} {cs:List SV} {m:Bool} {q:PV} (h:nth hp id=some (.cell cs m)) (J:RV φ (.ptr id i r) q):
 ∃a j C,q= .ptr a i r/\φ[id]? =some (some a)/\L a=some (.row [j] j.length C)/\RL φ cs j/\(m=true->C=true):=by
 let⟨o,ho,R⟩:=I.ph h
 let⟨a,U,h2⟩:=J
 simp only[RM]at R;grind
def RH.refM {L} (U:RH φ hp L) {id i n C ct j m q} (h:nth hp id=some (.many ct j m)) (hq:RV φ (.ref id i n C) q):
 (∃a es J,q= .ref a i n (C.getD n)/\φ[id]? =some (some a)/\L a=some (.row es 1 J)/\All2 (λV c=> ∃q,c=[q]/\RV φ V q) j es/\(m=true->J=true))\/(q= .nils/\j=[]/\i=0/\n=0/\C.getD n=0/\φ[id]? =some none):=by
 let⟨o,ho,R⟩:=U.ph h
 rcases hq with⟨a,I,h2⟩|⟨I,h2,h3,h4,h5⟩;rw[I]at ho;cases ho;simp only[RM]at R;grind;rw[I]at ho;cases ho;simp[RM]at R;grind
def RH.ptrM {L} (I:RH φ hp L) {id i r ct j m q} (h:nth hp id=some (.many ct j m)) (J:RV φ (.ptr id i r) q):
 ∃a es C,q= .ptr a i r/\φ[id]? =some (some a)/\L a=some (.row es 1 C)/\All2 (λV c=> ∃q,c=[q]/\RV φ V q) j es/\(m=true->C=true):=by
 let⟨o,ho,R⟩:=I.ph h
 let⟨a,U,h2⟩:=J
 simp only[RM]at R;grind
theorem Zpa: ∀ {xs:List SV} {a as:List PV},Zrb xs=some a->RL φ xs as->as=a
 | [],a,as,h,j=>by cases h;simpa only[RL]using j
 |x::xs,a,as,h,j=>by simp only[RL]at j;obtain⟨q,r,rfl,C,J⟩:=j;simp only[Zrb]at h;split at h;(·rename_i c l I hl;cases h;rw[Zpa hl J];congr 1;unfold ZII at I;split at I<;>cases I;exact Zc0 C;exact Zff C;exact ZfH C);cases h
def ZFn (hT:TysOK P T) {op t x y a b k} (h:ZLg P T op t x y k) (C:RV φ x a) (I:RV φ y b):ValOK φ k (Ziz P op t a b):=by
 unfold ZLg at h;split at h;split at h;rename_i R U;simp[RV]at C I;grind [Zpa,Ziz,ZgY];cases h;rw[Zc0 C,Zc0 I];exact ZGy h;rw[ZfH C,ZfH I];exact ZFV h;rw[Zff C,Zff I];split at h;rename_i j;have:=(hT.get j sM).k;rw[j]at this;simp[Ziz,ZoH,show P.underlying t=_ from this];exact ZgY h;cases h;simp[RV]at C I;subst C;subst I;split at h;rename_i j;have:=(hT.get j sM).k;rw[j]at this;let⟨e,he⟩:=this
 simp[Ziz,Zjy,he];exact ZgY h;cases h;simp[RV]at C I;subst I;obtain⟨_,_,rfl⟩:=C;split at h;rename_i j;have:=(hT.get j sM).k;rw[j]at this;let⟨e,he⟩:=this
 simp[Ziz,Zjy,he];exact ZgY h;cases h;simp[RV]at C I;subst I;obtain⟨_,rfl,_⟩:=C;split at h;rename_i j;have:=(hT.get j sM).k;rw[j]at this;let⟨e,he⟩:=this
 simp[Ziz,Zjy,he];exact ZgY h;cases h;simp[RV]at C I;subst C;subst I;split at h;rename_i j;have:=(hT.get j sM).k;rw[j]at this;simp[Ziz,Zdf,show P.underlying t=_ from this];exact ZgY h;cases h;simp[RV,RR]at C I;subst I;split at h;rename_i j;have:=(hT.get j sM).k;rw[j]at this;rcases C with⟨e,J⟩|⟨es,e,_⟩;cases e;simp[Ziz,Zdf,show P.underlying t=_ from this];exact ZgY (h.1 J);cases e;simp[Ziz,Zdf,show P.underlying t=_ from this];exact ZgY h.2;cases h;simp[RV]at C I;subst I;split at h;rename_i j;have:=(hT.get j sM).k;rw[j]at this;rcases C with⟨_,_,rfl⟩|⟨_,rfl,_,hn,_⟩;simp[Ziz,Zdf,show P.underlying t=_ from this,if_true];exact ZgY h.2;simp[Ziz,Zdf,show P.underlying t=_ from this,if_true];exact ZgY (h.1 hn);cases h;cases h
def ZJv {op x a k} (h:unT op x k) (j:RV φ x a):ValOK φ k (ZKk op a):=by unfold unT at h;split at h;rw[Zc0 j];exact .mk (vi _ _) h;rw[Zff j];exact .mk (vb _) h;rw[Zc0 j];exact .mk (vi _ _) h;cases h
def KM.some {t k} (h:KM P t k) (ho:k≠ .other): ∃u,P.underlying t=some u:=by
 cases k<;>first
  |exact⟨_,h⟩
  |(let⟨_,h,_⟩:=h;exact⟨_,h⟩)
  |(let⟨_,h⟩:=h;exact⟨_,h⟩)
  |(let⟨_,_,_,h⟩:=h;exact⟨_,h⟩)
  |(let⟨_,_,h,_⟩:=h;exact⟨_,h⟩)
  |(let⟨_,_,_,h,_⟩:=h;exact⟨_,h⟩)
  |exact absurd rfl ho
def Zmz a:All2 (RR (.i .u8)) (Zjw a) (byteCells ⟨a.toArray⟩):=by unfold byteCells Zjw;induction a with|nil=>trivial|cons x r j=>exact⟨rfl,j⟩
def Zhf: ∀ {xs:List Int} {es:List (List PV)},All2 (RR (.i .u8)) xs es->bytesOf es=some (Zkv xs)
 | [],[],_=>rfl
 |x::xs,e::es,h=>by have j:=h.1;simp only[RR]at j;subst j;simp only[bytesOf,Zhf h.2];rfl
def ZCG (hT:TysOK P T) (hh:RH φ hp (λa=>H[a]?)) {s d x a k} (h:ZG5 T s d hp x k) (U:RV φ x a):ValOK φ k (Zdx P H s d a):=by
 have known: ∀t,(T t).k≠ .other-> ∃u,P.underlying t=some u:=λt ho=>KM.some (hT.get rfl ho).k ho
 unfold ZG5 at h;split at h;cases h;rename_i hd j;let⟨u,hu⟩:=known s (λe=>j e)
 have:=(hT.get hd sM).k;rw[hd]at this;rw[Zc0 U];simp[Zdx,hu,show P.underlying d=_ from this];exact .mk (vi _ _) h;rename_i j hd;let⟨⟨h0,C⟩,h⟩:=h
 have e1:=(hT.get j sM).k;have e2:=(hT.get hd sM).k;rw[j]at e1;rw[hd]at e2;rw[Zc0 U,ZJg (by rw[show P.underlying s=_ from e1];rfl) e2 _ h0 C];exact .mk (vs _) h;rename_i hd j;let⟨u,hu⟩:=known s (λe=>j e)
 have:=(hT.get hd sM).k;rw[hd]at this;rw[ZfH U];simp[Zdx,hu,show P.underlying d=_ from this];exact .mk (vs _) h;rename_i j hd;split at h;rename_i he;have C:=(hT.get j sM).k;have I:=(hT.get hd sM).k;have J:=(hT.get he sM).k;rw[j]at C;rw[hd]at I;rw[he]at J;rw[ZfH U];simp[Zdx,show P.underlying s=_ from C,show P.underlying d=_ from I,show P.underlying _=_ from J];refine .mk ?_ h;simp only[RV,RR];exact .inr ⟨_,rfl,Zmz _⟩;cases h;rename_i j hd;split at h;rename_i he;have C:=(hT.get j sM).k;have I:=(hT.get hd sM).k;have J:=(hT.get he sM).k;rw[j]at C;rw[hd]at I;rw[he]at J;rcases ZjN U with⟨rfl,rfl⟩|⟨es,rfl,R⟩;simp[Zdx,show P.underlying s=_ from C,show P.underlying d=_ from I,show P.underlying _=_ from J];exact .mk (vs _) h;simp[Zdx,show P.underlying s=_ from C,show P.underlying d=_ from I,show P.underlying _=_ from J,elems,Zhf R];exact .mk (vs _) h;cases h;rename_i j hd;split at h;rename_i he;split at h;rename_i aa;have C:=(hT.get j sM).k;have I:=(hT.get hd sM).k;have J:=(hT.get he sM).k;rw[j]at C;rw[hd]at I;rw[he]at J;rcases hh.ref aa U with⟨a',es,m',rfl,_,ha,R,_⟩|⟨rfl,rfl,rfl,rfl,_,_⟩;have hl:=R.len;simp[Zdx,show P.underlying s=_ from C,show P.underlying d=_ from I,show P.underlying _=_ from J,elems,show H[a']? =_ from ha];rw[if_pos oM];simp[Xad,Zhf (R.sub _ _),Xau];exact .mk (vs _) h.2;simp[Zdx,show P.underlying s=_ from C,show P.underlying d=_ from I,show P.underlying _=_ from J,elems,Xad,bytesOf,Xau];exact .mk (vs _) h.2;cases h;cases h;cases h
def ZuH {t} (hT:TysOK P T) (ho:(T t).k≠ .other):Zbi P t=some (T t).sz/\ZAU P t=some (match(T t).k with| .struct _| .arr _ _=>true|_=>false):=by
 have h:=hT.get rfl ho;refine⟨h.sz, ?_⟩;have j:=h.k;revert j;cases j:(T t).k<;>intro hm<;>simp only[KM]at hm<;>first
  |(simp[ZAU,hm];done)
  |(let⟨_,hm,_⟩:=hm;simp[hm];done)
  |(let⟨_,hm⟩:=hm;simp[ZAU,hm];done)
  |(let⟨_,_,_,hm⟩:=hm;simp[ZAU,hm];done)
  |(let⟨_,_,hm,_⟩:=hm;simp[ZAU,hm];done)
  |exact absurd j ho
def Zil (hT:TysOK P T) {t cs j off V} (h:Zjp (T t) cs off=some V) (I:RL φ cs j): ∃q,Zed P t j off=some q/\RV φ V q:=by
 have ho:(T t).k≠ .other:=by grind [Zjp]
 let⟨R,J⟩:=ZuH hT ho
 have hl:=I.len;have agg: ∀V,(bif Nat.ble (off+(T t).sz) cs.length then some (SV.agg ((cs.drop off).take (T t).sz))else none)=some V->ZAU P t=some true-> ∃q,Zed P t j off=some q/\RV φ V q:=by intro V h J;cases C:Nat.ble (off+(T t).sz) cs.length with|false=>rw[C]at h;cases h|true=>rw[C]at h;cases h;have:=Xam C;simp only[Zed,J,R,Xad];rw[if_pos oM];refine⟨_,rfl, ?_⟩;simp only[RV];grind [RL.take,RL.drop]
 unfold Zjp at h;split at h;grind;grind;cases h;rename_i h3 h4 h5;rw[ZaA]at h;let⟨q,U,aa⟩:=I.get h
 grind [Zed]
def ZtW (hT:TysOK P T) (hh:RH φ hp (λa=>H[a]?)) {t x a k} (h:Zon T t hp x k) (hx:RV φ x a):ValOK φ k (Zcf P H t a):=by
 unfold Zon at h;split at h;split at h;rename_i j;let⟨y,hy,h⟩:=h
 obtain⟨a',es,m',rfl,_,ha,C,_⟩:=hh.ptr j hx;let⟨c,hc,aa⟩:=C.get hy
 split at h;rename_i V I;let⟨q,J,R⟩:=Zil hT I (Ziv (φ:=φ) aa)
 simp[Zcf,show H[a']? =_ from ha,hc,J];exact .mk R h;cases h;rename_i j;obtain⟨rfl,h⟩:=h;obtain⟨a',ab,m',rfl,_,ha,U,_⟩:=hh.ptrC j hx;split at h;rename_i V I;let⟨q,J,R⟩:=Zil hT I U
 simp[Zcf,show H[a']? =_ from ha,J];exact .mk R h;cases h;rename_i j;let⟨W,hW,h⟩:=h
 obtain⟨a',es,m',rfl,_,ha,C,_⟩:=hh.ptrM j hx;obtain⟨c,hc,y,rfl,hy⟩:=C.get hW;split at h;rename_i V I;let⟨q,J,R⟩:=Zil hT I (show RL φ [W] [y]by simp only[RL];exact⟨_,_,rfl,hy,rfl⟩)
 simp[Zcf,show H[a']? =_ from ha,hc,J];exact .mk R h;cases h;cases h;split at h;rename_i V I;simp[RV]at hx;obtain⟨cs,rfl,U⟩:=hx;let⟨q,J,R⟩:=Zil hT I (Ziv (φ:=φ) U)
 simp[Zcf,J];exact .mk R h;cases h;cases h
def ZJx (hh:RH φ hp (λa=>H[a]?)) {t e z} (hu:P.underlying t=some (.slice e)) (hz:Zbi P e=some z) {x a kk j k} (h:ixT z hp x j k) (hx:RV φ x a):ValOK φ k (Zar P H t a (.int kk j)):=by
 unfold ixT at h;split at h;split at h;rename_i hw;have hw:=Xay hw;let⟨y,J,hy,h⟩:=h
 rcases ZjN hx with⟨rfl,rfl⟩|⟨es,rfl,R⟩;simp at hy;let⟨c,hc,U⟩:=R.get hy
 have ab:=(Xaf.1 hc).1;simp[Zar,hu,hz];rw[if_pos ⟨J,oM⟩,hc];simp;rw[if_pos (by rw[U.len];exact hw)];refine .mk ?_ h;simp only[RV];exact⟨c,rfl,U⟩;cases h;split at h;rename_i C;split at h;rename_i hw;have hw:=Xay hw;let⟨⟨J,h1⟩,h⟩:=h
 rcases hh.ref C hx with⟨I,es,m',rfl,hp',ha,R,_⟩|⟨rfl,rfl,rfl,rfl,_,_⟩;simp[Zar,hu,hz];rw[if_pos ⟨J,h1⟩];simp[show H[I]? =_ from ha];rw[if_pos hw];refine .mk ?_ h;simp only[RV];exact⟨I,hp',rfl⟩;omega;cases h;rename_i C;split at h;rename_i hw;have hw:=Xay hw;let⟨⟨J,h1⟩,h⟩:=h
 obtain⟨I,ad,m',rfl,hp',ha,aa,_⟩:=hh.refC C hx;simp[Zar,hu,hz];rw[if_pos ⟨J,h1⟩];simp[show H[I]? =_ from ha];rw[if_pos (by rw[<-aa.len];exact hw)];refine .mk ?_ h;simp only[RV];exact⟨I,hp',rfl⟩;cases h;rename_i C;split at h;rename_i hw;have hw:=Xay hw;let⟨⟨J,h1⟩,h⟩:=h
 rcases hh.refM C hx with⟨I,es,m',rfl,hp',ha,R,_⟩|⟨rfl,rfl,rfl,rfl,_,_⟩;simp[Zar,hu,hz];rw[if_pos ⟨J,h1⟩];simp[show H[I]? =_ from ha];rw[if_pos hw];refine .mk ?_ h;simp only[RV];exact⟨I,hp',rfl⟩;omega;cases h;cases h;cases h
def ZoT (hT:TysOK P T) (hh:RH φ hp (λa=>H[a]?)) {t x R a b k} (h:ZeZ T t hp x R k) (C:RV φ x a) (hi:RV φ R b):ValOK φ k (Zar P H t a b):=by unfold ZeZ at h;split at h;rw[Zc0 hi];split at h;rename_i I;have j:=(hT.get I sM).k;rw[I]at j;split at h;cases h;rename_i he;exact ZJx hh j (hT.get rfl (λe=>he e)).sz h C;rename_i I;have j:=(hT.get I sM).k;rw[I]at j;split at h;cases h;rename_i he;have U:=(hT.get rfl (λe=>he e)).sz;split at h;simp[RV]at C;obtain⟨a',h2,rfl⟩:=C;simp[Zar,show P.underlying t=_ from j,U];rw[if_pos h.1];refine .mk ?_ h.2;exact⟨a',h2,rfl⟩;simp[RV]at C;obtain⟨cs,rfl,J⟩:=C;simp[Zar,show P.underlying t=_ from j,U];rw[if_pos h.1];refine .mk ?_ h.2;exact⟨cs,rfl,J⟩;cases h;cases h;cases h
def Zxd (hT:TysOK P T) {t x R a b k} (h:ZyM T t x R k) (U:RV φ x a) (hi:RV φ R b):ValOK φ k (ZiM P t a b):=by
 unfold ZyM at h;split at h;rw[Zc0 hi];split at h;rename_i j;have C:=(hT.get j sM).k;rw[j]at C;let⟨c,I,hc,h⟩:=h
 rw[ZfH U];simp[ZiM,show P.underlying t=_ from C,hc];rw[if_pos I];exact .mk (vi _ _) h;rename_i j;have C:=(hT.get j sM).k;rw[j]at C;let⟨I,h⟩:=h
 split at h;cases h;rename_i hp' he;obtain⟨aa,rfl,J⟩:=U;let⟨q,h2,h3⟩:=Zil hT hp' J
 simp[ZiM,show P.underlying t=_ from C,((hT.get rfl (λe=>he e)).sz)];rw[if_pos I,h2];exact .mk h3 h;cases h;cases h;cases h
def Zm0 (hT:TysOK P T) {s j} (C:(T s).k= .struct j) {f off ty n} (hf:nth j f=some (off,ty,n)):fieldAt P s f=some (off,ty)/\Zbi P ty=some n:=by
 have I:=(hT.get C sM).k;rw[C]at I;let⟨a,hu,hm,J⟩:=I
 rw[ZaA]at hf;refine⟨?_,(J _ (XaC hf))⟩;have:(a.toList.map λf=>(f.offset,f.type))[f]? =some (off,ty):=by grind
 grind [fieldAt]
def ZnW (hT:TysOK P T) {s x a f k} (h:Zi7 T s x f k) (j:RV φ x a):ValOK φ k (Zc6 P s a f):=by
 unfold Zi7 at h;split at h;rename_i R;split at h;rename_i hf;let⟨I,J⟩:=Zm0 hT R hf
 split at h;simp[RV]at j;obtain⟨U,h3,rfl⟩:=j;simp[Zc6,I,J];refine .mk ?_ h;exact⟨U,h3,rfl⟩;simp[RV]at j;obtain⟨cs,rfl,C⟩:=j;simp[Zc6,I,J];refine .mk ?_ h;exact⟨cs,rfl,C⟩;cases h;cases h;cases h
def ZAy (hT:TysOK P T) {s:TypeId} {x:SV} {a:PV} {f:Nat} {k:SV->Prop} (h:ZEI T s x f k) (j:RV φ x a):ValOK φ k (ZnV P s a f):=by
 unfold ZEI at h;split at h
 ·rename_i hk;split at h
  ·rename_i hf;obtain⟨h1,h2⟩:=Zm0 hT hk hf;split at h
   ·rename_i hp';simp only[RV]at j;obtain⟨cs',rfl,hcs⟩:=j;obtain⟨q,h3,h4⟩:=Zil hT hp' hcs;simp only[ZnV,h1,Option.bind_some,h3];exact .mk h4 h
   ·cases h
  ·cases h
 ·cases h
def ZER (hT:TysOK P T) {t x a k} (h:ZLi T t x k) (I:RV φ x a):ValOK φ k (ZeW P H t a):=by unfold ZLi at h;split at h;rename_i C;have j:=(hT.get C sM).k;rw[C]at j;rw[ZfH I];simp[ZeW,show P.underlying t=_ from j];exact .mk (vi _ _) h;rename_i C;have j:=(hT.get C sM).k;rw[C]at j;rcases ZjN I with⟨rfl,rfl⟩|⟨es,rfl,J⟩;simp[ZeW,show P.underlying t=_ from j];exact .mk (vi _ _) h;simp[ZeW,show P.underlying t=_ from j,<-J.len];exact .mk (vi _ _) h;rename_i C;have j:=(hT.get C sM).k;rw[C]at j;simp[RV]at I;subst I;simp[ZeW,show P.underlying t=_ from j];exact .mk (vi _ _) h;rename_i C;have j:=(hT.get C sM).k;rw[C]at j;rcases I with⟨R,_,rfl⟩|⟨_,rfl,_,rfl,_⟩;simp[ZeW,show P.underlying t=_ from j];exact .mk (vi _ _) h;simp[ZeW,show P.underlying t=_ from j];exact .mk (vi _ _) h;rename_i C;have j:=(hT.get C sM).k;rw[C]at j;simp[ZeW,show P.underlying t=_ from j];exact .mk (vi _ _) h;cases h
def ZoK j: ∀ {l:List SV} {x:SV} {a:PV} {C:List PV} {k:SV->Prop},ZyC j l x k->RV φ x a->RL φ l C->ValOK φ k (Zj7 (match j with|true=>max2|false=>min2) C a)
 | [],x,a,C,k,h,I,hl=>by simp[RL]at hl;subst hl;cases j<;>exact .mk I h
 |y::l,x,a,C,k,h,I,hl=>by obtain⟨q,r,rfl,U,R⟩:=hl;unfold ZyC mmT at h;split at h;split at h;rename_i J;have J:=Zg6 J;subst J;rw[Zc0 I,Zc0 U];(cases j with|true=>simp[Zj7,max2];exact ZoK true h (vi _ _) R|false=>simp[Zj7,min2];exact ZoK false h (vi _ _) R);cases h;cases h
end
end
end Go.Tx
