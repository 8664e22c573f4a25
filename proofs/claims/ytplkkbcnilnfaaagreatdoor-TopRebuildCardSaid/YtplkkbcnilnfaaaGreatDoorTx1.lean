/- A program logic over the evaluator: typed values, what code asks of a state (definitions alone). -/
import Derived.Test.YtplkkbcnilnfaaaGreatDoorAmC
set_option linter.all false
namespace Go.Tx
noncomputable section
open Go.Am
inductive AV where
 |nil
 |i (t:TypeId) (k:IntKind) (n:Int)
 |s (t:TypeId) (x:List UInt8)
def AV.pv:AV->PV
 | .nil=> .nili
 | .i t k n=> .ifc t (.i k n)
 | .s t x=> .ifc t (.s ⟨List.toArray x⟩)
inductive CT where
 |i (k:IntKind)|b|s|l (e:CT)|p (a c:CT)|any
 deriving DecidableEq
abbrev CT.D:CT->Type
 | .i _=>Int
 | .b=>Bool
 | .s=>List UInt8
 | .l e=>List e.D
 | .p a c=>a.D×c.D
 | .any=>AV
def CT.w:CT->Nat
 | .p a c=>a.w+c.w
 |_=>1
def CT.z:(t:CT)->t.D
 | .i _=>(0:Int)
 | .b=>false
 | .s=>([]:List UInt8)
 | .l e=>([]:List e.D)
 | .p a c=>(a.z,c.z)
 | .any=>AV.nil
def All2 {α β:Type} (R:α->β->Prop):List α->List β->Prop
 | [],[]=>True
 |a::as,b::j=>R a b/\All2 R as j
 |_,_=>False
def RR:(t:CT)->t.D->List PV->Prop
 | .i k,x,cs=>cs=[.int k x]
 | .b,x,cs=>cs=[.bool x]
 | .s,x,cs=>cs=[.str ⟨List.toArray x⟩]
 | .l e,xs,cs=>(cs=[.nils]/\xs=([]:List e.D))\/ ∃es,cs=[.lst es]/\All2 (RR e) xs es
 | .p a c,x,cs=> ∃u v,cs=u++v/\RR a x.1 u/\RR c x.2 v
 | .any,x,cs=>cs=[AV.pv x]
inductive SV where
 |v (t:CT) (x:t.D)
 |nilp|nils|nilf|nili|nilmp
 |ref (id i n:Nat) (m:Option Nat)
 |ptr (id i r:Nat)
 |box (t:CT) (x:t.D) (r:Nat)
 |func (f:FuncId) (first caps:List SV)
 |agg (cs:List SV)
 |tup (vs:List SV)
 |mp (id:Nat)
 |cl (t:CT) (xs:List t.D)
abbrev Ph:=List (Option Nat)
mutual
def RV (φ:Ph):SV->PV->Prop
 | .v t x,q=>RR t x [q]
 | .nilp,q=>q= .nilp
 | .nils,q=>q= .nils
 | .nilf,q=>q= .nilf
 | .nili,q=>q= .nili
 | .nilmp,q=>q= .nilm
 | .ref id i n m,q=>(∃a,φ[id]? =some (some a)/\q= .ref a i n (m.getD n))\/(φ[id]? =some none/\q= .nils/\i=0/\n=0/\m.getD n=0)
 | .ptr id i r,q=> ∃a,φ[id]? =some (some a)/\q= .ptr a i r
 | .box t x r,q=> ∃cs,q= .box cs r/\RR t x cs
 | .func f a c,q=> ∃C I,q= .func f C I/\RL φ a C/\RL φ c I
 | .agg cs,q=> ∃j,q= .agg j/\RL φ cs j
 | .tup vs,q=> ∃vs',q= .tup vs'/\RL φ vs vs'
 | .mp id,q=> ∃a,φ[id]? =some (some a)/\q= .map a
 | .cl t xs,q=>(q= .nils/\xs=([]:List t.D))\/ ∃es,q= .clp es/\All2 (RR t) xs es
def RL (φ:Ph):List SV->List PV->Prop
 | [],qs=>qs=[]
 |v::vs,qs=> ∃q r,qs=q::r/\RV φ v q/\RL φ vs r
end
inductive SM where
 |row (t:CT) (l:List t.D) (m:Bool)
 |cell (cs:List SV) (m:Bool)
 |many (ct:CT) (els:List SV) (m:Bool)
 |set (ks:List (List UInt8))
 |im (t:CT) (es:List (Int×t.D))
 |dead
def live:SM->Bool
 | .dead=>false
 |_=>true
def RM (φ:Ph) (L:Nat->Option Mem) (o:Option Nat):SM->Prop
 | .row t l m=>match o with
  |some a=> ∃es j,L a=some (.row es t.w j)/\All2 (RR t) l es/\(m=true->j=true)
  |none=>l=[]
 | .cell cs m=> ∃a C j,o=some a/\L a=some (.row [C] C.length j)/\RL φ cs C/\(m=true->j=true)
 | .many _ I m=>match o with
  |some a=> ∃es j,L a=some (.row es 1 j)/\All2 (λV c=> ∃q,c=[q]/\RV φ V q) I es/\(m=true->j=true)
  |none=>I=[]
 | .set ks=> ∃a es,o=some a/\L a=some (.map es)/\All2 (λ(k:List UInt8) (e:PV×PV)=>e=(.str ⟨List.toArray k⟩, .bool true)) ks es
 | .im t ks=> ∃a es,o=some a/\L a=some (.map es)/\All2 (λ(k:Int×t.D) (e:PV×PV)=>e.1= .int .i64 k.1/\RR t k.2 [e.2]) ks es
 | .dead=>True
structure RH (φ:Ph) (hp:List SM) (L:Nat->Option Mem):Prop where
 len:φ.length=hp.length
 row: ∀ (id:Nat) (sm:SM) (o:Option Nat),hp[id]? =some sm->φ[id]? =some o->RM φ L o sm
 inj: ∀ (id id':Nat) (sm sm':SM) (a:Nat),id≠id'->hp[id]? =some sm->hp[id']? =some sm'->live sm=true->live sm'=true->φ[id]? =some (some a)->φ[id']? =some (some a)->False
abbrev TM:=List (Nat×SV)
def Zck (i:Nat):TM->Option SV
 | []=>none
 |p::r=>bif Nat.beq i p.1 then some p.2 else Zck i r
structure SRep (φ:Ph) (tm:TM) (hp:List SM) (st:St):Prop where
 tm: ∀i V,Zck i tm=some V-> ∃q,get st.tm i=some q/\RV φ V q
 hp:RH φ hp (λa=>st.hp[a]?)
def Le (φ φ':Ph):Prop:= ∀ (id:Nat) (o:Option Nat),φ[id]? =some o->φ'[id]? =some o
def Fr (F:Nat) (φ φ':Ph):Prop:= ∀id,id<F->φ'[id]? =φ[id]?
inductive TK where
 |int (k:IntKind)|bool|str|slice (e:TypeId)|arr (n:Nat) (e:TypeId)|struct (fs:List (Nat×TypeId×Nat))|ptr|func|smap|imap (v:CT)|any|other
structure TI where
 k:TK
 sz:Nat
 by_:Nat
 zero:List SV
 ct:Option CT
def nth {α:Type}:List α->Nat->Option α
 | [],_=>none
 |a::_,0=>some a
 |_::l,n+1=>nth l n
def keq (a b:IntKind):Bool:=Nat.beq a.ctorIdx b.ctorIdx
def ceq:CT->CT->Bool
 | .i a, .i b=>keq a b
 | .b, .b=>true
 | .s, .s=>true
 | .l a, .l b=>ceq a b
 | .p a c, .p b d=>ceq a b&&ceq c d
 | .any, .any=>true
 |_,_=>false
def Zbf:(t:CT)->t.D->List SV
 | .p a c,x=>Zbf a x.1++Zbf c x.2
 | .i k,x=> [.v (.i k) x]
 | .b,x=> [.v .b x]
 | .s,x=> [.v .s x]
 | .l e,x=> [.v (.l e) x]
 | .any,x=> [.v .any x]
def ZgM {a b:IntKind} (h:keq a b=true):a=b:=by revert h;cases a<;>cases b<;>decide
def ZfZ: ∀ {e j:CT},ceq e j=true->e=j:=by intro e;induction e with|i k=>intro j h;cases j<;>simp[ceq]at h;rw[ZgM h]|b=>intro j h;cases j<;>simp[ceq]at h;rfl|s=>intro j h;cases j<;>simp[ceq]at h;rfl|l a J=>intro j h;cases j<;>simp[ceq]at h;rw[J h]|p a c C I=>intro j h;cases j<;>simp[ceq]at h;rw[C h.1,I h.2]|any=>intro j h;cases j<;>simp[ceq]at h;rfl
def Zgv:(e j:CT)->ceq e j=true->List e.D->List j.D:=λe j h xs=>cast (by rw[ZfZ h]) xs
def Zb3:(t:CT)->List SV->Option t.D
 | .p a c,cs=>match Zb3 a (cs.take a.w)with
  |some x=>match Zb3 c (cs.drop a.w)with
   |some y=>some (x,y)
   |none=>none
  |none=>none
 | .i k,cs=>match cs with
  | [.v (.i k') y]=>bif keq k k' then some y else none
  |_=>none
 | .b,cs=>match cs with
  | [.v .b y]=>some y
  |_=>none
 | .s,cs=>match cs with
  | [.v .s y]=>some y
  |_=>none
 | .l e,cs=>match cs with
  | [.v (.l j) y]=>if h:ceq j e=true then some (Zgv j e h y)else none
  | [.nils]=>some ([]:List e.D)
  |_=>none
 | .any,cs=>match cs with
  | [.v .any y]=>some y
  | [.nili]=>some AV.nil
  |_=>none
def Znf:Value->Option SV
 | .bool b=>some (.v .b b)
 | .int k n=>some (.v (.i k) n)
 | .string s=>some (.v .s s.data.toList)
 | .pointer none=>some .nilp
 | .slice none 0 0=>some .nils
 | .nilFunc=>some .nilf
 | .nilIface=>some .nili
 | .map none=>some .nilmp
 |_=>none
def ZjG:List Value->Option (List SV)
 | []=>some []
 |v::r=>match Znf v with
  |some x=>match ZjG r with
   |some y=>some (x::y)
   |none=>none
  |none=>none
def Zvf:Value->Option SV
 | .agg cs=>match ZjG cs.toList with
  |some l=>some (.agg l)
  |none=>none
 |v=>Znf v
def evS (tm:TM):Operand->Option SV
 | .tmp t=>Zck t tm
 | .const v=>Zvf v
 | .func f=>some (.func f [] [])
 | .global _=>none
def evL (tm:TM):List Operand->Option (List SV)
 | []=>some []
 |x::r=>match evS tm x with
  |some v=>match evL tm r with
   |some l=>some (v::l)
   |none=>none
  |none=>none
def Zbr:SV->List SV
 | .agg cs=>cs
 |v=> [v]
def ZbB:SV->Bool
 | .tup _=>false
 |_=>true
def spl {α:Type} (l:List α) (off:Nat) (cs:List α):List α:=l.take off++(cs++l.drop (off+cs.length))
def sub {α:Type} (l:List α) (i n:Nat):List α:=(l.drop i).take n
section
variable (P:Program) (h:Hints)
structure PureOK (f:FuncId) (Vs:List SV) (Q:SV->Prop):Prop where
 out: ∀qs,RL [] Vs qs-> ∃q V,ZbT h (lim P h) f qs=some q/\RV [] V q/\Q V
structure ImpOK (f:FuncId) (Vs:List SV) (Q:SV->List SM->Bool->Prop):Prop where
 out: ∀qs,RL [] Vs qs-> ∀base,∃v rows sf φ V hp sf',Zdj (lim P h) f qs base=some (v,rows,sf)/\RV φ V v/\RH φ hp (λa=>if base<=a then rows[a-base]? else none)/\(sf'=true->sf=true)/\Q V hp sf'
structure OpenOK (f:FuncId) (Vs:List SV) (hp:List SM) (Q:SV->List SM->Prop):Prop where
 out: ∀φ H qs,RH φ hp (λa=>H[a]?)->RL φ Vs qs-> ∃v H' φ' V hp',(lim P h).rn f qs H=some (v,H')/\Le φ φ'/\RH φ' hp' (λa=>H'[a]?)/\RV φ' V v/\Q V hp'
structure LoopOK (F:Nat) (c:Cx) (b:Code) (tm:TM) (hp:List SM) (Q:Ex->TM->List SM->Prop):Prop where
 out: ∀φ st,F<=φ.length->SRep φ tm hp st-> ∃e st' φ' tm' hp',(lim P h).ex c (.loop b) st=some (e,st')/\Fr F φ φ'/\SRep φ' tm' hp' st'/\Q e tm' hp'
end
def Zds (f:SV->(SV->Prop)->Prop):List SV->(List SV->Prop)->Prop
 | [],k=>k []
 |v::r,k=>f v λj=>Zds f r λC=>k (j::C)
def ZDr (ct:CT):List SV->Option (List ct.D)
 | []=>some []
 |V::r=>match Zb3 ct [V]with
  |some x=>match ZDr ct r with
   |some xs=>some (x::xs)
   |none=>none
  |none=>none
def ZdB (hp:List SM):Nat->SV->(SV->Prop)->Prop
 |0,_,_=>False
 |1,_,_=>False
 |n+2,V,k=>match V with
  | .ref id i m _=>match nth hp id with
   |some (.row t l _)=>i+m<=l.length/\k (.v (.l t) (sub l i m))
   |some (.many ct C _)=>i+m<=C.length/\Zds (ZdB hp (n+1)) (sub C i m) λcs=>match ZDr ct cs with
    |some xs=>k (.v (.l ct) xs)
    |none=>False
   |some (.cell cs _)=>(i=0/\m=1)/\Zds (ZdB hp (n+1)) cs λj=> ∃ (ct:CT) (x:ct.D),Zb3 ct j=some x/\k (.v (.l ct) [x])
   |_=>False
  | .ptr id i r=>match nth hp id with
   |some (.row t l _)=> ∃x,l[i]? =some x/\k (.box t x r)
   |some (.cell cs _)=>i=0/\Zds (ZdB hp (n+1)) cs λj=> ∃ (ct:CT) (x:ct.D),Zb3 ct j=some x/\k (.box ct x r)
   |_=>False
  | .func f a c=>Zds (ZdB hp (n+1)) a λI=>Zds (ZdB hp (n+1)) c λJ=>k (.func f I J)
  | .agg cs=>Zds (ZdB hp (n+1)) cs λj=>k (.agg j)
  | .tup vs=>Zds (ZdB hp (n+1)) vs λvs'=>k (.tup vs')
  | .mp _=>False
  |V=>k V
def ZyL (hp:List SM):List SV->(List SV->Prop)->Prop:=Zds (ZdB hp 40)
mutual
def ZdI:SV->List Nat
 | .ref id _ _ _=> [id]
 | .ptr id _ _=> [id]
 | .func _ a c=>rchL a++rchL c
 | .agg cs=>rchL cs
 | .tup vs=>rchL vs
 | .mp id=> [id]
 |_=> []
def rchL:List SV->List Nat
 | []=> []
 |v::r=>ZdI v++rchL r
end
def ZgG (hp:List SM):Nat->SV->List Nat
 |0,_=> []
 |n+1,V=>match V with
  | .ref id i m _=>id::(match nth hp id with
   |some (.many _ j _)=>(sub j i m).flatMap (ZgG hp n)
   |some (.cell cs _)=>cs.flatMap (ZgG hp n)
   |_=> [])
  | .ptr id _ _=>id::(match nth hp id with
   |some (.cell cs _)=>cs.flatMap (ZgG hp n)
   |_=> [])
  | .func _ a c=>a.flatMap (ZgG hp n)++c.flatMap (ZgG hp n)
  | .agg cs=>cs.flatMap (ZgG hp n)
  | .tup vs=>vs.flatMap (ZgG hp n)
  | .mp id=> [id]
  |_=> []
def ZdX (hp:List SM) (l:List SV):List Nat:=l.flatMap (ZgG hp 40)
def frz1 (hp:List SM) (id:Nat):List SM:=match nth hp id with
 |some (.row t l _)=>hp.set id (.row t l false)
 |some (.cell cs _)=>hp.set id (.cell cs false)
 |some (.many ct j _)=>hp.set id (.many ct j false)
 |_=>hp
def frzT (hp:List SM):List Nat->List SM
 | []=>hp
 |i::r=>frzT (frz1 hp i) r
def ZjV:SV->Bool
 | .v (.i _) _| .v .b _| .v .s _| .v .any _| .nilp| .nils| .nilf| .nili| .nilmp=>true
 |_=>false
def ZsS:SV->Bool
 | .tup vs=>vs.all ZjV
 | .agg cs=>cs.all ZjV
 |v=>ZjV v
mutual
def shS (b:Nat):SV->SV
 | .ref id i n m=> .ref (b+id) i n m
 | .ptr id i r=> .ptr (b+id) i r
 | .func f a c=> .func f (shL b a) (shL b c)
 | .agg cs=> .agg (shL b cs)
 | .tup vs=> .tup (shL b vs)
 | .v t x=> .v t x
 | .nilp=> .nilp
 | .nils=> .nils
 | .nilf=> .nilf
 | .nili=> .nili
 | .nilmp=> .nilmp
 | .box t x r=> .box t x r
 | .cl t xs=> .cl t xs
 | .mp id=> .mp (b+id)
def shL (b:Nat):List SV->List SV
 | []=> []
 |v::r=>shS b v::shL b r
end
def shH (b:Nat):SM->SM
 | .row t l m=> .row t l m
 | .cell cs m=> .cell (shL b cs) m
 | .many ct j m=> .many ct (shL b j) m
 | .set ks=> .set ks
 | .im t ks=> .im t ks
 | .dead=> .dead
def Zt2 (b:Nat):List SM->List SM
 | []=> []
 |m::r=>shH b m::Zt2 b r
section
variable (P:Program) (h:Hints) (T:TypeId->TI)
def ZIo (op:BinOp) (j:IntKind) (a:Int) (C:IntKind) (b:Int) (k:SV->Prop):Prop:=
 match op with
 | .shl=>0<=b/\k (.v (.i j) (j.wrap (a*2^(min b.toNat j.bits))))
 | .shr=>0<=b/\k (.v (.i j) (a.fdiv (2^(min b.toNat j.bits))))
 |op=>match keq j C with
  |false=>False
  |true=>match op with
   | .add=>k (.v (.i j) (j.wrap (a+b)))
   | .sub=>k (.v (.i j) (j.wrap (a-b)))
   | .mul=>k (.v (.i j) (j.wrap (a*b)))
   | .quo=>b≠0/\k (.v (.i j) (j.wrap (a.tdiv b)))
   | .rem=>b≠0/\k (.v (.i j) (a.tmod b))
   | .and=>k (.v (.i j) (j.wrap (BitVec.ofInt j.bits a&&&BitVec.ofInt j.bits b).toNat))
   | .or=>k (.v (.i j) (j.wrap (BitVec.ofInt j.bits a|||BitVec.ofInt j.bits b).toNat))
   | .xor=>k (.v (.i j) (j.wrap (BitVec.ofInt j.bits a^^^BitVec.ofInt j.bits b).toNat))
   | .andNot=>k (.v (.i j) (j.wrap (BitVec.ofInt j.bits a&&& ~~~ (BitVec.ofInt j.bits b)).toNat))
   | .eql=>k (.v .b (decide (a=b)))
   | .neq=>k (.v .b (!decide (a=b)))
   | .lss=>k (.v .b (decide (a<b)))
   | .leq=>k (.v .b (decide (a<=b)))
   | .gtr=>k (.v .b (decide (b<a)))
   | .geq=>k (.v .b (decide (b<=a)))
   |_=>False
def ZIl (op:BinOp) (a b:List UInt8) (k:SV->Prop):Prop:=
 match op with
 | .add=>a.length+b.length<=9223372036854775807/\k (.v .s (a++b))
 | .eql=>k (.v .b (a==b))
 | .neq=>k (.v .b (!(a==b)))
 | .lss=>k (.v .b (Op.bytesLess a b))
 | .leq=>k (.v .b (Op.bytesLess a b||a==b))
 | .gtr=>k (.v .b (!(Op.bytesLess a b||a==b)))
 | .geq=>k (.v .b (!Op.bytesLess a b))
 |_=>False
def eqB (op:BinOp) (r:Bool) (k:SV->Prop):Prop:=
 match op with
 | .eql=>k (.v .b r)
 | .neq=>k (.v .b (!r))
 |_=>False
def ZGl:SV->Option PV
 | .v (.i k) n=>some (.int k n)
 | .v .b b=>some (.bool b)
 | .v .s s=>some (.str ⟨s.toArray⟩)
 |_=>none
def ZpM:List SV->Option (List PV)
 | []=>some []
 |v::vs=>match ZGl v,ZpM vs with
  |some a,some l=>some (a::l)
  |_,_=>none
def ZIW (op:BinOp) (t:TypeId) (x y:SV) (k:SV->Prop):Prop:=
 match x,y with
 | .agg xs, .agg ys=>match ZpM xs,ZpM ys with
  |some a,some b=> ∃r,ZAR P t a b=some r/\eqB op r k
  |_,_=>False
 | .v (.i j) a, .v (.i C) b=>ZIo op j a C b k
 | .v .s a, .v .s b=>ZIl op a b k
 | .v .b a, .v .b b=>match(T t).k with
  | .bool=>eqB op (a==b) k
  |_=>False
 | .nilp, .nilp=>match(T t).k with
  | .ptr=>eqB op true k
  |_=>False
 | .ptr _ _ _, .nilp=>match(T t).k with
  | .ptr=>eqB op false k
  |_=>False
 | .box _ _ _, .nilp=>match(T t).k with
  | .ptr=>eqB op false k
  |_=>False
 | .nils, .nils=>match(T t).k with
  | .slice _=>eqB op true k
  |_=>False
 | .v (.l _) xs, .nils=>match(T t).k with
  | .slice _=>(xs=[]->eqB op true k)/\eqB op false k
  |_=>False
 | .ref _ _ n _, .nils=>match(T t).k with
  | .slice _=>(n=0->eqB op true k)/\eqB op false k
  |_=>False
 |_,_=>False
def unT (op:UnOp) (x:SV) (k:SV->Prop):Prop:=
 match op,x with
 | .neg, .v (.i j) n=>k (.v (.i j) (j.wrap (0-n)))
 | .not, .v .b b=>k (.v .b (!b))
 | .xor, .v (.i j) n=>k (.v (.i j) (j.wrap (BitVec.ofInt j.bits (if j.signed then-1 else j.max)^^^BitVec.ofInt j.bits n).toNat))
 |_,_=>False
def ZiX (s:List UInt8):List Int:=s.map λb=>(b.toNat:Int)
def Zvh (l:List Int):List UInt8:=l.map λn=>UInt8.ofNat n.toNat
def ZEe (s d:TypeId) (hp:List SM) (x:SV) (k:SV->Prop):Prop:=
 match(T s).k,(T d).k,x with
 | .other,_,_=>False
 |_, .int j, .v (.i _) n=>k (.v (.i j) (j.wrap n))
 | .int _, .str, .v (.i _) n=>(0<=n/\n<128)/\k (.v .s [UInt8.ofNat n.toNat])
 |_, .str, .v .s a=>k (.v .s a)
 | .str, .slice e, .v .s a=>match(T e).k with
  | .int .u8=>k (.v (.l (.i .u8)) (ZiX a))
  |_=>False
 | .slice e, .str, .v (.l (.i .u8)) a=>match(T e).k with
  | .int .u8=>k (.v .s (Zvh a))
  |_=>False
 | .slice e, .str, .ref id i n _=>match(T e).k with
  | .int .u8=>match nth hp id with
   |some (.row (.i .u8) l _)=>i+n<=l.length/\k (.v .s (Zvh (sub l i n)))
   |_=>False
  |_=>False
 |_,_,_=>False
def Zhl (i:TI) (cs:List SV) (off:Nat):Option SV:=
 match i.k with
 | .struct _| .arr _ _=>bif Nat.ble (off+i.sz) cs.length then some (.agg ((cs.drop off).take i.sz))else none
 | .other=>none
 |_=>nth cs off
def Zm0 (t:TypeId) (hp:List SM) (x:SV) (k:SV->Prop):Prop:=
 match x with
 | .ptr id i r=>match nth hp id with
  |some (.row ct l _)=> ∃x,l[i]? =some x/\match Zhl (T t) (Zbf ct x) r with
   |some V=>k V
   |none=>False
  |some (.cell cs _)=>i=0/\match Zhl (T t) cs r with
   |some V=>k V
   |none=>False
  |some (.many _ j _)=> ∃V,j[i]? =some V/\match Zhl (T t) [V] r with
   |some V=>k V
   |none=>False
  |_=>False
 | .box ct x r=>match Zhl (T t) (Zbf ct x) r with
  |some V=>k V
  |none=>False
 |_=>False
def ZrM:SV->Bool
 | .agg _| .tup _=>false
 |_=>true
def Zjk (t:TypeId) (hp:List SM) (a x:SV) (k:SV->List SM->Prop):Prop:=
 match a with
 | .ptr id i r=>match ZbB x&&Nat.beq (Zbr x).length (T t).sz with
  |true=>match nth hp id with
   |some (.row ct l true)=> ∃y,l[i]? =some y/\match(T t).k,Nat.ble (r+(T t).sz) ct.w,Zb3 ct (spl (Zbf ct y) r (Zbr x))with
    | .other,_,_=>False
    |_,true,some z=>k (.tup []) (hp.set id (.row ct (l.set i z) true))
    |_,_,_=>False
   |some (.cell cs true)=>i=0/\match(T t).k,Nat.ble (r+(T t).sz) cs.length with
    | .other,_=>False
    |_,true=>k (.tup []) (hp.set id (.cell (spl cs r (Zbr x)) true))
    |_,_=>False
   |some (.many ct j true)=>i<j.length/\match(T t).k,Nat.beq r 0&&ZrM x with
    | .other,_=>False
    |_,true=>k (.tup []) (hp.set id (.many ct (j.set i x) true))
    |_,_=>False
   |_=>False
  |false=>False
 |_=>False
def ixT (z:Nat) (hp:List SM) (x:SV) (j:Int) (k:SV->Prop):Prop:=
 match x with
 | .v (.l ct) xs=>match Nat.beq ct.w z with
  |true=> ∃y,0<=j/\xs[j.toNat]? =some y/\k (.box ct y 0)
  |false=>False
 | .ref id i n _=>match nth hp id with
  |some (.row ct _ _)=>match Nat.beq ct.w z with
   |true=>(0<=j/\j<n)/\k (.ptr id (i+j.toNat) 0)
   |false=>False
  |some (.cell cs _)=>match Nat.beq cs.length z with
   |true=>(0<=j/\j<n)/\k (.ptr id (i+j.toNat) 0)
   |false=>False
  |some (.many _ _ _)=>match Nat.beq 1 z with
   |true=>(0<=j/\j<n)/\k (.ptr id (i+j.toNat) 0)
   |false=>False
  |_=>False
 |_=>False
def Ze0 (t:TypeId) (hp:List SM) (x C:SV) (k:SV->Prop):Prop:=
 match C with
 | .v (.i _) j=>match(T t).k with
  | .slice e=>match(T e).k with
   | .other=>False
   |_=>ixT (T e).sz hp x j k
  | .arr n e=>match(T e).k with
   | .other=>False
   |_=>match x with
    | .ptr id i r=>(0<=j/\j<n)/\k (.ptr id i (r+j.toNat*(T e).sz))
    | .box ct y r=>(0<=j/\j<n)/\k (.box ct y (r+j.toNat*(T e).sz))
    |_=>False
  |_=>False
 |_=>False
def ZxM (t:TypeId) (x C:SV) (k:SV->Prop):Prop:=
 match C with
 | .v (.i _) j=>match(T t).k,x with
  | .str, .v .s s=> ∃b,0<=j/\s[j.toNat]? =some b/\k (.v (.i .u8) (b.toNat:Int))
  | .arr n e, .agg cs=>(0<=j/\j<n)/\match(T e).k,Zhl (T e) cs (j.toNat*(T e).sz)with
   | .other,_=>False
   |_,some V=>k V
   |_,none=>False
  |_,_=>False
 |_=>False
def Zii (s:TypeId) (x:SV) (f:Nat) (k:SV->Prop):Prop:=
 match(T s).k with
 | .struct j=>match nth j f with
  |some (off,_,n+1)=>match x with
   | .ptr id i r=>k (.ptr id i (r+off))
   | .box ct y r=>k (.box ct y (r+off))
   |_=>False
  |_=>False
 |_=>False
def ZwO (s:TypeId) (x:SV) (f:Nat) (k:SV->Prop):Prop:=
 match(T s).k,x with
 | .struct j, .agg cs=>match nth j f with
  |some (off,ty,_)=>match Zhl (T ty) cs off with
   |some V=>k V
   |none=>False
  |none=>False
 |_,_=>False
def ZIe (t:TypeId) (x:SV) (k:SV->Prop):Prop:=
 match(T t).k,x with
 | .str, .v .s s=>k (.v (.i .i64) (s.length:Int))
 | .slice _, .v (.l _) xs=>k (.v (.i .i64) (xs.length:Int))
 | .slice _, .nils=>k (.v (.i .i64) (0:Int))
 | .slice _, .ref _ _ n _=>k (.v (.i .i64) (n:Int))
 | .arr n _,_=>k (.v (.i .i64) (n:Int))
 |_,_=>False
def mmT (C:Bool) (x y:SV) (k:SV->Prop):Prop:=
 match x,y with
 | .v (.i j) a, .v (.i I) b=>match keq j I with
  |true=>k (.v (.i j) (match C with|true=>(if b>a then b else a)|false=>(if b<a then b else a)))
  |false=>False
 |_,_=>False
def Zwq (j:Bool):List SV->SV->(SV->Prop)->Prop
 | [],a,k=>k a
 |b::r,a,k=>mmT j a b λc=>Zwq j r c k
def ZAq (j:List (Nat×TypeId×Nat)):List SV->List (Nat×SV)->Option (List SV)
 |cs,[]=>some cs
 |cs,(i,V)::r=>match nth j i with
  |some (off,_,n)=>bif Nat.beq (Zbr V).length n&&Nat.ble (off+n) cs.length then ZAq j (spl cs off (Zbr V)) r else none
  |none=>none
def Zy1 (n:Nat):List SV->List (Nat×SV)->Option (List SV)
 |cs,[]=>some cs
 |cs,(i,V)::r=>bif Nat.beq (Zbr V).length n&&Nat.ble (i*n+n) cs.length then Zy1 n (spl cs (i*n) (Zbr V)) r else none
def Zn6 (tm:TM):List (Nat×Operand)->Option (List (Nat×SV))
 | []=>some []
 |(i,x)::r=>match evS tm x with
  |some V=>bif ZbB V then(match Zn6 tm r with
   |some l=>some ((i,V)::l)
   |none=>none)else none
  |none=>none
def Zym (t:TypeId) (ps:List (Nat×SV)) (k:SV->Prop):Prop:=
 match(T t).k with
 | .struct j=>match ZAq j (T t).zero ps with
  |some cs=>k (.agg cs)
  |none=>False
 | .arr _ e=>match(T e).k,Zy1 (T e).sz (T t).zero ps with
  | .other,_=>False
  |_,some cs=>k (.agg cs)
  |_,none=>False
 |_=>False
def ZAS (ct:CT):List ct.D->List (Nat×SV)->Option (List ct.D)
 |l,[]=>some l
 |l,(i,V)::r=>match Zb3 ct (Zbr V)with
  |some x=>bif Nat.ble (i+1) l.length then ZAS ct (l.set i x) r else none
  |none=>none
def okN:Nat->List (Nat×SV)->Bool
 |0,[]=>true
 |0,_::_=>false
 |_+1,_=>true
def ZAA:Nat->List (Nat×SV)->Option (List SV)
 |_,[]=>some []
 |i,(j,V)::r=>match Nat.beq i j&&ZrM V with
  |true=>match ZAA (i+1) r with
   |some l=>some (V::l)
   |none=>none
  |false=>none
def ZgT (t:TypeId) (n:Nat) (ps:List (Nat×SV)) (hp:List SM) (k:SV->List SM->Prop):Prop:=
 match(T t).k with
 | .slice e=>match(T e).k,okN n ps,Nat.ble 1 (T e).sz&&Nat.ble (n*(T e).sz) 16777216 with
  | .other,_,_=>False
  |_,true,true=>match(T e).ct with
   |some ct=>match ZAS ct (List.replicate n ct.z) ps with
    |some l=>k (.ref hp.length 0 n none) (hp++ [.row ct l true])
    |none=>match ZAA 0 ps,Nat.beq (T e).sz 1,Nat.beq ps.length n with
     |some j,true,true=>k (.ref hp.length 0 n none) (hp++ [.many ct j true])
     |_,_,_=>match n,ps with
      |1,[(0,V)]=>match Nat.beq (Zbr V).length (T e).sz with
       |true=>k (.ref hp.length 0 1 none) (hp++ [.cell (Zbr V) true])
       |false=>False
      |_,_=>False
   |none=>match n,ps with
    |1,[(0,V)]=>match Nat.beq (Zbr V).length (T e).sz with
     |true=>k (.ref hp.length 0 1 none) (hp++ [.cell (Zbr V) true])
     |false=>False
    |_,_=>False
  |_,_,_=>False
 |_=>False
def ZIv:Operand->Operand->Bool
 | .tmp a, .tmp b=>Nat.beq a b
 | .const (.int k a), .const (.int k' b)=>keq k k'&&(a==b)
 |_,_=>false
def ZiD (t:TypeId) (lo co:Operand) (tm:TM) (hp:List SM) (k:SV->List SM->Prop):Prop:=
 match evS tm lo,evS tm co with
 |some (.v (.i _) l),some (.v (.i _) c)=>match(T t).k with
  | .slice e=>match(T e).k,(T e).ct,Nat.ble 1 (T e).sz with
   | .other,_,_=>False
   |_,some ct,true=>(0<=l/\l<=c/\(T e).by_*c<=281474976710656/\c<9223372036854775808)/\match ZIv lo co with
    |true=>match(T e).zero with
     | [.nils]=>k (.ref hp.length 0 l.toNat none) (hp++ [.many ct (List.replicate l.toNat .nils) true])
     |_=>k (.ref hp.length 0 l.toNat none) (hp++ [.row ct (List.replicate l.toNat ct.z) true])
    |false=>k (.ref hp.length 0 l.toNat (some c.toNat)) (hp++ [.row ct (List.replicate c.toNat ct.z) true])
   |_,_,_=>False
  |_=>False
 |_,_=>False
def ZyM (tm:TM) (n m:Nat) (lo hi:Option Operand) (k:Nat->Nat->Prop):Prop:=
 match lo,hi with
 |none,none=>k 0 n
 |some x,none=>match evS tm x with
  |some (.v (.i _) l)=>(0<=l/\l<=n)/\k l.toNat n
  |_=>False
 |none,some y=>match evS tm y with
  |some (.v (.i _) u)=>(0<=u/\u<=m)/\k 0 u.toNat
  |_=>False
 |some x,some y=>match evS tm x,evS tm y with
  |some (.v (.i _) l),some (.v (.i _) u)=>(0<=l/\l<=u/\u<=m)/\k l.toNat u.toNat
  |_,_=>False
def ZpL (t:TypeId) (tm:TM) (hp:List SM) (x:SV) (lo hi:Option Operand) (k:SV->Prop):Prop:=
 match(T t).k,x with
 | .str, .v .s s=>ZyM tm s.length s.length lo hi λl u=>k (.v .s ((s.take u).drop l))
 | .slice e, .v (.l ct) xs=>match(T e).k,Nat.beq ct.w (T e).sz with
  | .other,_=>False
  |_,true=>ZyM tm xs.length xs.length lo hi λl u=>k (.v (.l ct) ((xs.take u).drop l))
  |_,_=>False
 | .slice e, .ref id i n m=>match(T e).k,nth hp id with
  | .other,_=>False
  |_,some (.row ct _ _)=>match Nat.beq ct.w (T e).sz with
   |true=>match hi,m with
    |none,none=>ZyM tm n n lo hi λl u=>k (.ref id (i+l) (u-l) none)
    |_,_=>ZyM tm n (m.getD n) lo hi λl u=>k (.ref id (i+l) (u-l) (some (m.getD n-l)))
   |false=>False
  |_,_=>False
 | .slice e, .nils=>match(T e).k with
  | .other=>False
  |_=>ZyM tm 0 0 lo hi λ_ _=>k .nils
 |_,_=>False
def ZqT (t:TypeId) (tm:TM) (hp:List SM) (x:SV) (lo hi j:Option Operand) (k:SV->Prop):Prop:=
 match(T t).k,x,lo,hi,j with
 | .slice e, .ref id i n m,some a,some b,some c=>match(T e).k,nth hp id with
  | .other,_=>False
  |_,some (.row ct _ _)=>match Nat.beq ct.w (T e).sz with
   |true=>match evS tm a,evS tm b,evS tm c with
    |some (.v (.i _) l),some (.v (.i _) u),some (.v (.i _) w)=>(0<=l/\l<=u/\u<=w/\w<=m.getD n)/\k (.ref id (i+l.toNat) (u.toNat-l.toNat) (some (w.toNat-l.toNat)))
    |_,_,_=>False
   |false=>False
  |_,_=>False
 | .slice e, .v (.l ct) xs,none,some b,some c=>match(T e).k,Nat.beq ct.w (T e).sz with
  | .other,_=>False
  |_,false=>False
  |_,true=>match evS tm b,evS tm c with
   |some (.v (.i _) u),some (.v (.i _) w)=>(0<=u/\u=w/\w<=(List.length (α:=ct.D) xs:Int))/\k (.cl ct (List.take (α:=ct.D) u.toNat xs))
   |_,_=>False
 |_,_,_,_,_=>False
def Zys (ct:CT) (hp:List SM) (x:SV) (k:List ct.D->Prop):Prop:=
 match x with
 | .nils=>k ([]:List ct.D)
 | .v (.l e) xs=>if h:ceq e ct=true then k (Zgv e ct h xs)else False
 | .v .s s=>match ct,k with
  | .i .u8,k=>k (ZiX s)
  |_,_=>False
 | .ref id i n _=>match nth hp id with
  |some (.row e l _)=>if h:ceq e ct=true then i+n<=l.length/\k (Zgv e ct h (sub l i n))else False
  |_=>False
 |_=>False
def ZuV (ct:CT) (by_:Nat) (hp:List SM) (s:SV) (new:List ct.D) (k:SV->List SM->Prop):Prop:=
 match s with
 | .nils=>match new with
  | []=>k .nils hp
  |x::r=>(r.length+1)*by_<=140737488355328/\k (.ref hp.length 0 (r.length+1) none) (hp++ [.row ct (x::r) true])
 | .ref id i n m=>match nth hp id with
  |some (.row e l true)=>if h:ceq e ct=true then i+n<=l.length/\match new with
   | []=>k (.ref id i n m) hp
   |x::r=>match m with
    |none=>(n+(r.length+1))*by_<=140737488355328/\k (.ref hp.length 0 (n+(r.length+1)) none) (hp.set id .dead++ [.row ct (Zgv e ct h (sub l i n)++x::r) true])
    |some c=>(n+(r.length+1)<=c->i+(n+(r.length+1))<=l.length/\k (.ref id i (n+(r.length+1)) (some c)) (hp.set id (.row ct (spl (Zgv e ct h l) (i+n) (x::r)) true)))/\
     (c<n+(r.length+1)->(n+(r.length+1))*by_<=140737488355328/\k (.ref hp.length 0 (n+(r.length+1)) none) (hp.set id .dead++ [.row ct (Zgv e ct h (sub l i n)++x::r) true]))
   else False
  |some (.many e j true)=>ct.w=1/\i=0/\n=j.length/\m=none/\match new with
   | []=>False
   |x::r=>(n+(r.length+1))*by_<=140737488355328/\k (.ref hp.length 0 (n+(r.length+1)) none) (hp.set id .dead++ [.many e (j++(x::r).map λy=>SV.v ct y) true])
  |_=>False
 | .cl e xs=>if h:ceq e ct=true then match new with
  | []=>False
  |x::r=>(List.length (α:=e.D) xs+(r.length+1))*by_<=140737488355328/\k (.ref hp.length 0 (List.length (α:=e.D) xs+(r.length+1)) none) (hp++ [.row ct (Zgv e ct h xs++x::r) true])
  else False
 |_=>False
def ZgX (ts:List TypeId) (hp:List SM) (s x:SV) (k:SV->List SM->Prop):Prop:=
 match ts with
 |t::t2::_=>match(T t).k,(T t2).k with
  | .slice _, .int _=>False
  | .slice _, .other=>False
  | .slice e,_=>match(T e).k,(T e).ct,Nat.ble 1 (T e).by_&&Nat.ble 1 (T e).sz with
   | .other,_,_=>False
   |_,some ct,true=>match h.frz t with
    |true=>ZdB hp 40 x λV=>Zys ct [] V λnew=>ZuV ct (T e).by_ (frzT hp (ZgG hp 40 x)) s new k
    |false=>Zys ct hp x λnew=>ZuV ct (T e).by_ hp s new k
   |_,_,_=>False
  |_,_=>False
 |_=>False
def ZEt (ts:List TypeId) (hp:List SM) (d x:SV) (k:SV->List SM->Prop):Prop:=
 match ts with
 |t::_=>match(T t).k with
  | .slice e=>match(T e).k,(T e).ct,Nat.ble 1 (T e).sz with
   | .other,_,_=>False
   |_,some ct,true=>Zys ct hp x λnew=>match d with
    | .nils=>k (.v (.i .i64) (0:Int)) hp
    | .ref id i n _=>match nth hp id with
     |some (.row j l true)=>if C:ceq j ct=true then i+n<=l.length/\k (.v (.i .i64) ((min new.length n:Nat):Int)) (hp.set id (.row ct (spl (Zgv j ct C l) i (new.take n)) true))else False
     |_=>False
    |_=>False
   |_,_,_=>False
  |_=>False
 |_=>False
def Zti (ts:List TypeId) (hp:List SM) (d:SV) (k:SV->List SM->Prop):Prop:=
 match ts with
 |t::_=>match(T t).k with
  | .slice e=>match(T e).k,(T e).ct,Nat.ble 1 (T e).sz with
   | .other,_,_=>False
   |_,some ct,true=>match d with
    | .nils=>k (.tup []) hp
    | .ref id i n _=>match nth hp id with
     |some (.row j l true)=>if C:ceq j ct=true then i+n<=l.length/\k (.tup []) (hp.set id (.row ct (spl (Zgv j ct C l) i (List.replicate n ct.z)) true))else False
     |_=>False
    |_=>False
   |_,_,_=>False
  |_=>False
 |_=>False
def Zb1 (f:FuncId) (args:List SV) (hp:List SM) (k:SV->List SM->Prop):Prop:=
 match h.opn f with
 |true=>OpenOK P h f args hp k
 |false=>ZyL hp args λqs=>match h.imp f with
  |true=>ImpOK P h f qs λV j C=>k (shS hp.length V) ((match C with|true=>hp|false=>frzT hp (ZdX hp args))++Zt2 hp.length j)
  |false=>PureOK P h f qs λV=>match h.mem f with
   |true=>k V (frzT hp (ZdX hp args))
   |false=>match ZsS V with
    |true=>k V hp
    |false=>False
def ZfU (c:Call) (tm:TM) (hp:List SM) (k:SV->List SM->Prop):Prop:=
 match evL tm c.args.toList with
 |none=>False
 |some vs=>match c.callee with
  | .builtin b=>match b,vs with
   | .len,[x]=>match c.argTypes.toList with
    |t::_=>ZIe T t x λV=>k V hp
    |_=>False
   | .min,x::r=>Zwq false r x λV=>k V hp
   | .max,x::r=>Zwq true r x λV=>k V hp
   | .append,[s,x]=>ZgX h T c.argTypes.toList hp s x k
   | .copy,[s,x]=>ZEt T c.argTypes.toList hp s x k
   | .clear,[s]=>Zti T c.argTypes.toList hp s k
   |_,_=>False
  | .value (.func f)=>Zb1 P h f vs hp k
  | .value x=>match evS tm x with
   |some (.func f a d)=>Zb1 P h f (a++vs++d) hp k
   |_=>False
  |_=>False
def ZyY (s:List UInt8):List (List UInt8)->List (List UInt8)
 | []=> [s]
 |k::r=>bif s==k then k::r else k::ZyY s r
def ZuY (s:List UInt8):List (List UInt8)->Bool
 | []=>false
 |k::r=>bif s==k then true else ZuY s r
def Zru {α:Type} (s:Int) (v:α):List (Int×α)->List (Int×α)
 | []=> [(s,v)]
 |k::r=>bif s==k.1 then(s,v)::r else k::Zru s v r
def ZhU {α:Type} (z:α) (s:Int):List (Int×α)->α
 | []=>z
 |k::r=>bif s==k.1 then k.2 else ZhU z s r
def ZFo (c e:CT) (h:ceq c e=true) (x:c.D):e.D:=cast (by rw[ZfZ h]) x
def AV.is (u:TypeId):AV->Option SV
 | .nil=>none
 | .i t k n=>match Nat.beq t u with
  |true=>some (.v (.i k) n)
  |false=>none
 | .s t x=>match Nat.beq t u with
  |true=>some (.v .s x)
  |false=>none
def Zv8 (y:AV) (u:TypeId) (ok:Bool) (k:SV->Prop):Prop:=(λ_=>False) T
def opT (op:Op) (tm:TM) (hp:List SM) (k:SV->List SM->Prop):Prop:=
 match op with
 | .move x=>match evS tm x with
  |some V=>k V hp
  |none=>False
 | .assign x=>match evS tm x with
  |some V=>k V hp
  |none=>False
 | .pick c a b=>match evS tm c with
  |some (.v .b t)=>(t=true->match evS tm a with|some V=>k V hp|none=>False)/\(t=false->match evS tm b with|some V=>k V hp|none=>False)
  |_=>False
 | .alloc t=>match(T t).k with
  | .other=>False
  |_=>k (.ptr hp.length 0 0) (hp++ [.cell (T t).zero true])
 | .box _ x=>match evS tm x with
  |some V=>match ZbB V with
   |true=>k (.ptr hp.length 0 0) (hp++ [.cell (Zbr V) true])
   |false=>False
  |none=>False
 | .build t ps=>match Zn6 tm ps.toList with
  |some l=>Zym T t l λV=>k V hp
  |none=>False
 | .buildSlice t n ps=>match Zn6 tm ps.toList with
  |some l=>ZgT T t n l hp k
  |none=>False
 | .load t a=>match evS tm a with
  |some V=>Zm0 T t hp V λV=>k V hp
  |none=>False
 | .nilCheck x=>match evS tm x with
  |some (.ptr id i r)=>k (.ptr id i r) hp
  |some (.box t x r)=>k (.box t x r) hp
  |some (.func f a c)=>k (.func f a c) hp
  |_=>False
 | .binOp op t x y _=>match evS tm x,evS tm y with
  |some a,some b=>ZIW P T op t a b λV=>k V hp
  |_,_=>False
 | .unOp op _ x=>match evS tm x with
  |some a=>unT op a λV=>k V hp
  |none=>False
 | .convert s d x=>match evS tm x with
  |some a=>ZEe T s d hp a λV=>k V hp
  |none=>False
 | .makeInterface t x=>match(T t).k,evS tm x with
  | .int _,some (.v (.i k') n)=>k (.v .any (AV.i t k' n)) hp
  | .str,some (.v .s s)=>k (.v .any (AV.s t s)) hp
  |_,_=>False
 | .typeAssert x _ u ok=>match evS tm x with
  |some (.v .any y)=>Zv8 T y u ok λV=>k V hp
  |_=>False
 | .makeFunc fn first C=>match fn with
  | .func f=>match evL tm first.toList,evL tm C.toList with
   |some a,some c=>k (.func f a c) hp
   |_,_=>False
  |_=>False
 | .makeSlice t l c=>ZiD T t l c tm hp k
 | .slice t x lo hi I=>match I,evS tm x with
  |none,some V=>ZpL T t tm hp V lo hi λV=>k V hp
  |some y,some V=>ZqT T t tm hp V lo hi (some y) λV=>k V hp
  |_,_=>False
 | .fieldAddr s x f=>match evS tm x with
  |some V=>Zii T s V f λV=>k V hp
  |none=>False
 | .field s x f=>match evS tm x with
  |some V=>ZwO T s V f λV=>k V hp
  |none=>False
 | .indexAddr t x j=>match evS tm x,evS tm j with
  |some V,some J=>Ze0 T t hp V J λV=>k V hp
  |_,_=>False
 | .index t x j=>match evS tm x,evS tm j with
  |some V,some J=>ZxM T t V J λV=>k V hp
  |_,_=>False
 | .extract x i=>match evS tm x with
  |some (.tup vs)=>match nth vs i with
   |some V=>k V hp
   |none=>False
  |_=>False
 | .call c=>ZfU P h T c tm hp k
 | .store t a x=>match evS tm a,evS tm x with
  |some A,some V=>Zjk T t hp A V k
  |_,_=>False
 | .makeMap t r=>match(T t).k,r with
  | .smap,none=>k (.mp hp.length) (hp++ [.set []])
  | .imap c,none=>k (.mp hp.length) (hp++ [.im c []])
  |_,_=>False
 | .lookup t x j ok=>match(T t).k,evS tm x,evS tm j,ok with
  | .smap,some (.mp id),some (.v .s s),false=>match nth hp id with
   |some (.set ks)=>k (.v .b (ZuY s ks)) hp
   |_=>False
  | .imap e,some (.mp id),some (.v (.i .i64) s),false=>match nth hp id with
   |some (.im c ks)=>if ceq c e=true then k (.v c (ZhU c.z s ks)) hp else False
   |_=>False
  |_,_,_,_=>False
 | .mapUpdate t m j x=>match(T t).k,evS tm m,evS tm j,evS tm x with
  | .smap,some (.mp id),some (.v .s s),some (.v .b true)=>match nth hp id with
   |some (.set ks)=>k (.tup []) (hp.set id (.set (ZyY s ks)))
   |_=>False
  | .imap _,some (.mp id),some (.v (.i .i64) s),some (.v e x)=>match nth hp id with
   |some (.im c ks)=>if h:ceq e c=true then k (.tup []) (hp.set id (.im c (Zru s (ZFo e c h x) ks)))else False
   |_=>False
  |_,_,_,_=>False
 |_=>False
def ZcR (N:Nat) (dst:Option Tmp) (V:SV) (tm:TM) (k:TM->Prop):Prop:=
 match dst with
 |none=>k tm
 |some d=>match Nat.ble (d+1) N with
  |true=>k ((d,V)::tm)
  |false=>False
def wpOps (N:Nat) (ds:List (Option Tmp)):List Oper->TM->List SM->(TM->List SM->Prop)->Prop
 | [],tm,hp,k=>k tm hp
 |o::l,tm,hp,k=>match o.guard with
  |none=>opT P h T o.op tm hp λV hp'=>ZcR N o.dst V tm λtm'=>wpOps N ds l tm' hp' k
  |some (j,w)=>match nth ds j with
   |some (some d)=>match Zck d tm with
    |some (.v .b t)=>(t=w->opT P h T o.op tm hp λV hp'=>ZcR N o.dst V tm λtm'=>wpOps N ds l tm' hp' k)/\
     (t= !w->ZcR N o.dst (.tup []) tm λtm'=>wpOps N ds l tm' hp k)
    |some (.tup [])=>ZcR N o.dst (.tup []) tm λtm'=>wpOps N ds l tm' hp k
    |_=>False
   |_=>False
def Zmg (hp:List SM) (id:Nat):Bool:=match nth hp id with
 |some m=>live m
 |none=>false
def ZvQ (id:Nat):List Nat->Bool
 | []=>false
 |j::r=>match Nat.beq id j with
  |true=>true
  |false=>ZvQ id r
def Zk4 (hp:List SM):List Nat->Bool
 | []=>true
 |j::r=>Zmg hp j&&Zk4 hp r
def ZlP:List (Nat×Nat×Bool)->List Nat
 | []=> []
 |(_,id,true)::r=>id::ZlP r
 |(_,_,false)::r=>ZlP r
def ZHk:List (Nat×Nat×Bool)->List Nat
 | []=> []
 |(_,id,_)::r=>id::ZHk r
def ZHB (tm:TM) (c:Call):Option (Option Nat):=match c.callee with
 | .builtin .append=>match c.args.toList with
  |x::_=>match evS tm x with
   |some .nils=>some none
   |some (.ref id _ _ _)=>some (some id)
   |some (.cl _ _)=>some none
   |_=>none
  | []=>none
 |_=>none
def ZvC (o:Oper):List (Nat×Nat×Bool)->List (Nat×Nat×Bool)
 | []=> []
 |x::r=>match Zev o x.1 with
  |true=>ZvC o r
  |false=>x::ZvC o r
def ZqC (o:Oper) (ks:List (Nat×Nat×Bool)):List (Nat×Nat×Bool):=
 match isW h o with
 |true=>ZvC o ks
 |false=>ks
def ZG0:SM->Option Nat
 | .row t _ _=>some t.w
 | .cell cs _=>some cs.length
 | .many _ _ _=>some 1
 | .set _=>none
 | .im _ _=>none
 | .dead=>none
def ZzB (hp hp':List SM):List (Nat×Nat×Bool)->Bool
 | []=>true
 |(_,id,_)::r=>match(nth hp id).bind ZG0,(nth hp' id).bind ZG0 with
  |some a,some b=>Nat.beq a b&&ZzB hp hp' r
  |_,_=>false
def ZHI (tm:TM) (c:Call):Bool:=match c.callee with
 | .value (.func _)=>false
 | .value x=>match evS tm x with
  |some (.func f _ _)=> !h.opn f
  |_=>false
 |_=>false
def ZDK (b:Bool) (p:Prop):Prop:=match b with
 |true=>p
 |false=>False
def ZHJ (tm:TM) (c:Call):Bool:=match c.callee with
 | .builtin .min=>true
 | .builtin .max=>true
 | .builtin .len=>match evL tm c.args.toList with
  |some [.v (.l _) _]=>true
  |some [.nils]=>true
  |some [.ref _ _ _ _]=>true
  |_=>false
 |_=>false
def ZaD (N:Nat) (ls:List Nat):List Oper->Nat->List (Nat×Nat×Bool)->TM->List SM->(TM->List SM->Prop)->Prop
 | [],_,_,tm,hp,k=>k tm hp
 |o::l,i,ks,tm,hp,k=>match has i ls with
  |true=>match o.op with
   | .load t a=>match evS tm a with
    |some (.ptr id _ _)=>opT P h T (.load t a) tm hp λV hp'=>ZcR N o.dst V tm λtm'=>ZaD N ls l (i+1) ((i,id,true)::ks) tm' hp' k
    |some (.box _ _ _)=>opT P h T (.load t a) tm hp λV hp'=>ZcR N o.dst V tm λtm'=>ZaD N ls l (i+1) ks tm' hp' k
    |_=>False
   | .move x=>opT P h T (.move x) tm hp λV hp'=>ZcR N o.dst V tm λtm'=>ZaD N ls l (i+1) ks tm' hp' k
   | .indexAddr t x j=>match evS tm x with
    |some (.ref id _ _ _)=>opT P h T (.indexAddr t x j) tm hp λV hp'=>ZcR N o.dst V tm λtm'=>ZaD N ls l (i+1) ((i,id,false)::ks) tm' hp' k
    |some (.v (.l _) _)=>opT P h T (.indexAddr t x j) tm hp λV hp'=>ZcR N o.dst V tm λtm'=>ZaD N ls l (i+1) ks tm' hp' k
    |some (.ptr _ _ _)=>opT P h T (.indexAddr t x j) tm hp λV hp'=>ZcR N o.dst V tm λtm'=>ZaD N ls l (i+1) ks tm' hp' k
    |_=>False
   | .binOp bo t x y z=>opT P h T (.binOp bo t x y z) tm hp λV hp'=>ZcR N o.dst V tm λtm'=>ZaD N ls l (i+1) ks tm' hp' k
   | .extract x n=>opT P h T (.extract x n) tm hp λV hp'=>ZcR N o.dst V tm λtm'=>ZaD N ls l (i+1) ks tm' hp' k
   | .slice t x lo hi J=>match evS tm x with
    |some (.v (.l _) _)=>opT P h T (.slice t x lo hi J) tm hp λV hp'=>ZcR N o.dst V tm λtm'=>ZaD N ls l (i+1) ks tm' hp' k
    |_=>False
   | .call c=>match ZHJ tm c with
    |true=>opT P h T (.call c) tm hp λV hp'=>ZcR N o.dst V tm λtm'=>ZaD N ls l (i+1) ks tm' hp' k
    |false=>False
   |_=>False
  |false=>match ZqC h o ks with
   | []=>opT P h T o.op tm hp λV hp'=>ZcR N o.dst V tm λtm'=>ZaD N ls l (i+1) [] tm' hp' k
   |y::C=>match isW h o with
    |false=>opT P h T o.op tm hp λV hp'=>ZcR N o.dst V tm λtm'=>ZaD N ls l (i+1) (y::C) tm' hp' k
    |true=>match ZlP (y::C)with
     | []=>opT P h T o.op tm hp λV hp'=>ZDK (ZzB hp hp' (y::C)) (ZcR N o.dst V tm λtm'=>ZaD N ls l (i+1) (y::C) tm' hp' k)
     |id0::ids=>match o.op with
      | .store t a x=>match evS tm a with
       |some (.ptr I j r)=>match Zmg hp I&&Zk4 hp (id0::ids)&& !ZvQ I (id0::ids)with
        |true=>opT P h T (.store t a x) tm hp λV hp'=>ZcR N o.dst V tm λtm'=>ZaD N ls l (i+1) (y::C) tm' hp' k
        |false=>False
       |_=>False
      | .call c=>match ZHI h tm c with
       |true=>opT P h T (.call c) tm hp λV hp'=>ZcR N o.dst V tm λtm'=>ZaD N ls l (i+1) (y::C) tm' hp' k
       |false=>match ZHB tm c with
        |some none=>opT P h T (.call c) tm hp λV hp'=>ZcR N o.dst V tm λtm'=>ZaD N ls l (i+1) (y::C) tm' hp' k
        |some (some I)=>match Zmg hp I&&Zk4 hp (ZHk (y::C))&& !ZvQ I (ZHk (y::C))with
         |true=>opT P h T (.call c) tm hp λV hp'=>ZcR N o.dst V tm λtm'=>ZaD N ls l (i+1) (y::C) tm' hp' k
         |false=>False
        |none=>False
      |_=>False
def ZGG:List Oper->List (Option Tmp)
 | []=> []
 |o::r=>o.dst::ZGG r
def ZEA (k:Ex->TM->List SM->Prop) (next:TM->List SM->Prop):Ex->TM->List SM->Prop
 | .normal,tm,hp=>next tm hp
 |e,tm,hp=>k e tm hp
def ZyI (id:Nat) (k:Ex->TM->List SM->Prop):Ex->TM->List SM->Prop
 | .exit j,tm,hp=>match Nat.beq j id with
  |true=>k .normal tm hp
  |false=>k (.exit j) tm hp
 |e,tm,hp=>k e tm hp
def wpR (N:Nat) (ls:List Nat) (ops:Array Oper) (tm:TM) (hp:List SM) (k:TM->List SM->Prop):Prop:=
 match ls with
 | []=>wpOps P h T N (ZGG ops.toList) ops.toList tm hp k
 |j::ls=>match noG ops.toList with
  |true=>ZaD P h T N (j::ls) ops.toList 0 [] tm hp k
  |false=>False
def wp (F:Nat) (c:Cx):Code->TM->List SM->(Ex->TM->List SM->Prop)->Prop
 | .skip,tm,hp,k=>k .normal tm hp
 | .label _,tm,hp,k=>k .normal tm hp
 | .region id ops _,tm,hp,k=>match h.perm c.fid id with
  | []=>wpR P h T c.N (h.light c.fid id) ops tm hp λtm' hp'=>k .normal tm' hp'
  |i::r=>wpR P h T c.N (h.light c.fid id) (rgo (i::r) ops) tm hp λtm' hp'=>k .normal tm' hp'
 | .seq a b,tm,hp,k=>wp F c a tm hp (ZEA k λtm' hp'=>wp F c b tm' hp' k)
 | .cond x a b,tm,hp,k=>match evS tm x with
  |some (.v .b t)=>(t=true->wp F c a tm hp k)/\(t=false->wp F c b tm hp k)
  |_=>False
 | .block id b,tm,hp,k=>match h.keepB c.fid id with
  |none=>wp F c b tm hp (ZyI id k)
  |some _=>False
 | .loop b,tm,hp,k=>LoopOK P h F c b tm hp k
 | .exit id,tm,hp,k=>k (.exit id) tm hp
 | .ret,tm,hp,k=>k .ret tm hp
 |_,_,_,_=>False
def ZEB (tm:TM) (hp:List SM):List ResultVar->(List SV->Prop)->Prop
 | [],k=>k []
 | .tmp t::r,k=>match Zck t tm with
  |some V=>ZEB tm hp r λl=>k (V::l)
  |none=>False
 | .cell a t::r,k=>match Zck a tm with
  |some V=>Zm0 T t hp V λV=>ZEB tm hp r λl=>k (V::l)
  |none=>False
def ZHz:List SV->SV
 | [V]=>V
 |l=> .tup l
def Zch:Nat->List SV->TM
 |_,[]=> []
 |i,V::r=>(i,V)::Zch (i+1) r
def ZnZ (rs:List ResultVar) (k:SV->List SM->Prop):Ex->TM->List SM->Prop
 | .exit _,_,_=>False
 |_,tm,hp=>ZEB T tm hp rs λl=>k (ZHz l) hp
inductive Im where
 |is (id:Nat)|nil
def ZGI:(t C:CT)->List t.D->List C.D->Prop
 | .i k, .i k',l,j=>match keq k k' with
  |true=>j=l
  |false=>False
 | .b, .b,l,j=>j=l
 | .s, .s,l,j=>j=l
 |t,C,l,j=>if h:ceq t C=true then j=Zgv t C h l else False
def ZHM (σ:List Im):SV->SV->Prop
 | .v (.i k) x, .v (.i k') C=>match keq k k' with
  |true=>C=x
  |false=>False
 | .v .b x, .v .b C=>C=x
 | .v .s x, .v .s C=>C=x
 | .v .any x, .v .any C=>C=x
 | .v (.l e) x, .v (.l R) C=>ZGI e R x C
 | .nils, .v (.l t) C=>C=([]:List t.D)
 | .nils, .nils=>True
 | .nilp, .nilp=>True
 | .nilf, .nilf=>True
 | .nili, .nili=>True
 | .nils, .ref j i' n' I=>match nth σ j with
  |some .nil=>i'=0/\n'=0/\I.getD n'=0
  |_=>False
 | .ref id i n m, .ref j i' n' I=>match nth σ j with
  |some (.is d)=>match Nat.beq d id with
   |true=>i'=i/\n'=n/\I.getD n'=m.getD n
   |false=>False
  |_=>False
 | .ptr id i r, .ptr j i' J=>match nth σ j with
  |some (.is d)=>match Nat.beq d id with
   |true=>i'=i/\J=r
   |false=>False
  |_=>False
 | .box t x r, .box U C J=>ZGI t U [x] [C]/\J=r
 |_,_=>False
def ZqS (σ:List Im):List SV->List SV->Prop
 | [],[]=>True
 |a::l,b::r=>ZHM σ a b/\ZqS σ l r
 |_,_=>False
def ZHu (σ:List Im):SV->SV->Prop
 | .func f a c, .func C I J=>C=f/\ZqS σ a I/\ZqS σ c J
 | .agg cs, .agg j=>ZqS σ cs j
 | .tup cs, .tup j=>ZqS σ cs j
 |a,b=>ZHM σ a b
def ZxE (σ:List Im) (tm:TM):TM->Prop
 | []=>True
 |(i,V')::r=>match Zck i tm with
  |some V=>ZHu σ V V'/\ZxE σ tm r
  |none=>False
def ZHW (σ:List Im) (hp:List SM):Im->SM->Prop
 | .is id, .row J j C=>match nth hp id with
  |some (.row t l m)=>ZGI t J l j/\(C=true->m=true)
  |_=>False
 | .nil, .row _ j _=>j=[]
 | .is id, .cell I C=>match nth hp id with
  |some (.cell cs m)=>ZqS σ cs I/\(C=true->m=true)
  |_=>False
 |_, .dead=>True
 |_,_=>False
def ZxI (σ:List Im) (hp:List SM):List Im->List SM->Prop
 |_,[]=>True
 | [],_=>False
 |s::ss,m::ms=>ZHW σ hp s m/\ZxI σ hp ss ms
def ZhM:List Im->Bool
 | []=>true
 | .nil::r=>ZhM r
 | .is i::r=>(r.all λx=>match x with| .is j=> !Nat.beq i j| .nil=>true)&&ZhM r
def Zpc:Nat->List Im->Bool
 |0,_=>true
 |F+1,l=>match nth l F with
  |some (.is i)=>Nat.beq i F&&Zpc F l
  |_=>false
def ZGs (j:Nat):SV->SV->Option Im
 |a, .ref C _ _ _=>match Nat.beq C j with
  |true=>match a with
   | .ref id _ _ _=>some (.is id)
   | .nils=>some .nil
   |_=>none
  |false=>none
 |a, .ptr C _ _=>match Nat.beq C j with
  |true=>match a with
   | .ptr id _ _=>some (.is id)
   |_=>none
  |false=>none
 |_,_=>none
def ZsC (j:Nat):List SV->List SV->Option Im
 |a::l,b::r=>match ZGs j a b with
  |some x=>some x
  |none=>ZsC j l r
 |_,_=>none
def ZIM (j:Nat):SV->SV->Option Im
 | .agg cs, .agg C=>ZsC j cs C
 | .func _ a c, .func _ I J=>ZsC j (a++c) (I++J)
 |a,b=>ZGs j a b
def ZAi (j:Nat) (tm:TM):TM->Option Im
 | []=>none
 |(i,V')::r=>match Zck i tm with
  |some V=>match ZIM j V V' with
   |some x=>some x
   |none=>ZAi j tm r
  |none=>ZAi j tm r
def Zva (j:Nat) (hp:List SM) (σ:Nat->Option Im):Nat->List SM->Option Im
 |_,[]=>none
 |n, .cell C _::r=>match σ n with
  |some (.is id)=>match nth hp id with
   |some (.cell cs _)=>match ZsC j cs C with
    |some x=>some x
    |none=>Zva j hp σ (n+1) r
   |_=>Zva j hp σ (n+1) r
  |_=>Zva j hp σ (n+1) r
 |n,_::r=>Zva j hp σ (n+1) r
def ZFn (tm tm':TM) (hp hp':List SM):Nat->List SM->List Im
 |_,[]=> []
 |j,m::r=>(match m with
  | .dead=> .nil
  |_=>match ZAi j tm tm' with
   |some s=>s
   |none=>match Zva j hp (λn=>ZAi n tm tm') 0 hp' with
    |some s=>s
    |none=> .nil)::ZFn tm tm' hp hp' (j+1) r
structure Ent (F:Nat) (tm:TM) (hp:List SM) (tm':TM) (hp':List SM):Prop where
 out: ∀φ st,F<=φ.length->SRep φ tm hp st-> ∃φ',Fr F φ φ'/\SRep φ' tm' hp' st
end
end
end Go.Tx
