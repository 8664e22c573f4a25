/-
 A program logic over the evaluator: typed values, what code asks of a state (definitions alone).
-/
import Derived.Test.YtgmjnhiakpcpbaaGreatDoorAmC
set_option linter.constructorNameAsVariable false
set_option linter.unusedSimpArgs false
set_option linter.unusedVariables false
namespace Go.Tx
open Go.Am
inductive AV where
 |nil
 |i (t:TypeId) (k:IntKind) (n:Int)
 |s (t:TypeId) (x:List UInt8)
def AV.pv:AV→PV
 | .nil=> .nili
 | .i t k n=> .ifc t (.i k n)
 | .s t x=> .ifc t (.s ⟨List.toArray x⟩)
inductive CT where
 |i (k:IntKind)|b|s|l (e:CT)|p (a c:CT)|any
 deriving DecidableEq
abbrev CT.D:CT→Type
 | .i _=>Int
 | .b=>Bool
 | .s=>List UInt8
 | .l e=>List e.D
 | .p a c=>a.D×c.D
 | .any=>AV
def CT.w:CT→Nat
 | .p a c=>a.w+c.w
 |_=>1
def CT.z:(t:CT)→t.D
 | .i _=>(0:Int)
 | .b=>false
 | .s=>([]:List UInt8)
 | .l e=>([]:List e.D)
 | .p a c=>(a.z,c.z)
 | .any=>AV.nil
def All2 {α β:Type} (R:α→β→Prop):List α→List β→Prop
 | [],[]=>True
 |a::as,b::bs=>R a b∧All2 R as bs
 |_,_=>False
def RR:(t:CT)→t.D→List PV→Prop
 | .i k,x,cs=>cs=[.int k x]
 | .b,x,cs=>cs=[.bool x]
 | .s,x,cs=>cs=[.str ⟨List.toArray x⟩]
 | .l e,xs,cs=>(cs=[.nils]∧xs=([]:List e.D))∨ ∃es,cs=[.lst es]∧All2 (RR e) xs es
 | .p a c,x,cs=> ∃u v,cs=u++v∧RR a x.1 u∧RR c x.2 v
 | .any,x,cs=>cs=[AV.pv x]
inductive SV where
 |v (t:CT) (x:t.D)
 |nilp|nils|nilf|nili|nilmp
 |ref (id i n:Nat) (m:Option Nat)
 |ptr (id i r:Nat)
 |box (t:CT) (x:t.D) (r:Nat)
 |func (f:FuncId) (first caps:List SV)
 |agg (cs:List SV)
 |tup (vs:List SV)
 |mp (id:Nat)
abbrev Ph:=List (Option Nat)
mutual
def RV (φ:Ph):SV→PV→Prop
 | .v t x,q=>RR t x [q]
 | .nilp,q=>q= .nilp
 | .nils,q=>q= .nils
 | .nilf,q=>q= .nilf
 | .nili,q=>q= .nili
 | .nilmp,q=>q= .nilm
 | .ref id i n m,q=>(∃a,φ[id]? =some (some a)∧q= .ref a i n (m.getD n))∨(φ[id]? =some none∧q= .nils∧i=0∧n=0∧m.getD n=0)
 | .ptr id i r,q=> ∃a,φ[id]? =some (some a)∧q= .ptr a i r
 | .box t x r,q=> ∃cs,q= .box cs r∧RR t x cs
 | .func f a c,q=> ∃a' c',q= .func f a' c'∧RL φ a a'∧RL φ c c'
 | .agg cs,q=> ∃cs',q= .agg cs'∧RL φ cs cs'
 | .tup vs,q=> ∃vs',q= .tup vs'∧RL φ vs vs'
 | .mp id,q=> ∃a,φ[id]? =some (some a)∧q= .map a
def RL (φ:Ph):List SV→List PV→Prop
 | [],qs=>qs=[]
 |v::vs,qs=> ∃q r,qs=q::r∧RV φ v q∧RL φ vs r
end
inductive SM where
 |row (t:CT) (l:List t.D) (m:Bool)
 |cell (cs:List SV) (m:Bool)
 |many (ct:CT) (els:List SV) (m:Bool)
 |set (ks:List (List UInt8))
 |dead
def live:SM→Bool
 | .dead=>false
 |_=>true
def RM (φ:Ph) (L:Nat→Option Mem) (o:Option Nat):SM→Prop
 | .row t l m=>match o with
  |some a=> ∃es m',L a=some (.row es t.w m')∧All2 (RR t) l es∧(m=true→m'=true)
  |none=>l=[]
 | .cell cs m=> ∃a cs' m',o=some a∧L a=some (.row [cs'] cs'.length m')∧RL φ cs cs'∧(m=true→m'=true)
 | .many _ els m=>match o with
  |some a=> ∃es m',L a=some (.row es 1 m')∧All2 (fun V c=> ∃q,c=[q]∧RV φ V q) els es∧(m=true→m'=true)
  |none=>els=[]
 | .set ks=> ∃a es,o=some a∧L a=some (.map es)∧All2 (fun(k:List UInt8) (e:PV×PV)=>e=(.str ⟨List.toArray k⟩, .bool true)) ks es
 | .dead=>True
structure RH (φ:Ph) (hp:List SM) (L:Nat→Option Mem):Prop where
 len:φ.length=hp.length
 row: ∀ (id:Nat) (sm:SM) (o:Option Nat),hp[id]? =some sm→φ[id]? =some o→RM φ L o sm
 inj: ∀ (id id':Nat) (sm sm':SM) (a:Nat),id≠id'→hp[id]? =some sm→hp[id']? =some sm'→live sm=true→live sm'=true→φ[id]? =some (some a)→φ[id']? =some (some a)→False
abbrev TM:=List (Nat×SV)
def Zcp (i:Nat):TM→Option SV
 | []=>none
 |p::r=>bif Nat.beq i p.1 then some p.2 else Zcp i r
structure SRep (φ:Ph) (tm:TM) (hp:List SM) (st:St):Prop where
 tm: ∀i V,Zcp i tm=some V→ ∃q,get st.tm i=some q∧RV φ V q
 hp:RH φ hp (fun a=>st.hp[a]?)
def Le (φ φ':Ph):Prop:= ∀ (id:Nat) (o:Option Nat),φ[id]? =some o→φ'[id]? =some o
def Fr (F:Nat) (φ φ':Ph):Prop:= ∀id,id<F→φ'[id]? =φ[id]?
inductive TK where
 |int (k:IntKind)|bool|str|slice (e:TypeId)|arr (n:Nat) (e:TypeId)|struct (fs:List (Nat×TypeId×Nat))|ptr|func|smap|any|other
structure TI where
 k:TK
 sz:Nat
 by_:Nat
 zero:List SV
 ct:Option CT
def nth {α:Type}:List α→Nat→Option α
 | [],_=>none
 |a::_,0=>some a
 |_::l,n+1=>nth l n
def keq (a b:IntKind):Bool:=Nat.beq a.ctorIdx b.ctorIdx
def ceq:CT→CT→Bool
 | .i a, .i b=>keq a b
 | .b, .b=>true
 | .s, .s=>true
 | .l a, .l b=>ceq a b
 | .p a c, .p b d=>ceq a b&&ceq c d
 | .any, .any=>true
 |_,_=>false
def Zcq:(t:CT)→t.D→List SV
 | .p a c,x=>Zcq a x.1++Zcq c x.2
 | .i k,x=> [.v (.i k) x]
 | .b,x=> [.v .b x]
 | .s,x=> [.v .s x]
 | .l e,x=> [.v (.l e) x]
 | .any,x=> [.v .any x]
theorem Zeu {a b:IntKind} (h:keq a b=true):a=b:=by
 revert h;cases a<;>cases b<;>decide
theorem Zhn: ∀ {e e':CT},ceq e e'=true→e=e':=by
 intro e
 induction e with
 |i k=>intro e' h;cases e'<;>simp[ceq]at h;rw[Zeu h]
 |b=>intro e' h;cases e'<;>simp[ceq]at h;rfl
 |s=>intro e' h;cases e'<;>simp[ceq]at h;rfl
 |l a ih=>intro e' h;cases e'<;>simp[ceq]at h;rw[ih h]
 |p a c iha ihc=>intro e' h;cases e'<;>simp[ceq]at h;rw[iha h.1,ihc h.2]
 |any=>intro e' h;cases e'<;>simp[ceq]at h;rfl
def ZfH:(e e':CT)→ceq e e'=true→List e.D→List e'.D:=fun e e' h xs=>cast (by rw[Zhn h]) xs
def ZbI:(t:CT)→List SV→Option t.D
 | .p a c,cs=>match ZbI a (cs.take a.w)with
  |some x=>match ZbI c (cs.drop a.w)with
   |some y=>some (x,y)
   |none=>none
  |none=>none
 | .i k,cs=>match cs with
  | [.v (.i k') y]=>bif keq k k' then some y else none
  |_=>none
 | .b,cs=>match cs with
  | [.v .b y]=>some y
  |_=>none
 | .s,cs=>match cs with
  | [.v .s y]=>some y
  |_=>none
 | .l e,cs=>match cs with
  | [.v (.l e') y]=>if h:ceq e' e=true then some (ZfH e' e h y)else none
  | [.nils]=>some ([]:List e.D)
  |_=>none
 | .any,cs=>match cs with
  | [.v .any y]=>some y
  | [.nili]=>some AV.nil
  |_=>none
def Zi1:Value→Option SV
 | .bool b=>some (.v .b b)
 | .int k n=>some (.v (.i k) n)
 | .string s=>some (.v .s s.data.toList)
 | .pointer none=>some .nilp
 | .slice none 0 0=>some .nils
 | .nilFunc=>some .nilf
 | .nilIface=>some .nili
 | .map none=>some .nilmp
 |_=>none
def ZgE:List Value→Option (List SV)
 | []=>some []
 |v::r=>match Zi1 v with
  |some x=>match ZgE r with
   |some y=>some (x::y)
   |none=>none
  |none=>none
def Zpv:Value→Option SV
 | .agg cs=>match ZgE cs.toList with
  |some l=>some (.agg l)
  |none=>none
 |v=>Zi1 v
def evS (tm:TM):Operand→Option SV
 | .tmp t=>Zcp t tm
 | .const v=>Zpv v
 | .func f=>some (.func f [] [])
 | .global _=>none
def evL (tm:TM):List Operand→Option (List SV)
 | []=>some []
 |x::r=>match evS tm x with
  |some v=>match evL tm r with
   |some l=>some (v::l)
   |none=>none
  |none=>none
def Za7:SV→List SV
 | .agg cs=>cs
 |v=> [v]
def ZdI:SV→Bool
 | .tup _=>false
 |_=>true
def spl {α:Type} (l:List α) (off:Nat) (cs:List α):List α:=l.take off++(cs++l.drop (off+cs.length))
def sub {α:Type} (l:List α) (i n:Nat):List α:=(l.drop i).take n
section
variable (P : Program) (h : Hints)
structure PureOK (f:FuncId) (Vs:List SV) (Q:SV→Prop):Prop where
 out: ∀qs,RL [] Vs qs→ ∃q V,Zbu h (lim P h) f qs=some q∧RV [] V q∧Q V
structure ImpOK (f:FuncId) (Vs:List SV) (Q:SV→List SM→Bool→Prop):Prop where
 out: ∀qs,RL [] Vs qs→ ∀base,∃v rows sf φ V hp sf',ZdN (lim P h) f qs base=some (v,rows,sf)∧RV φ V v∧RH φ hp (fun a=>if base≤a then rows[a-base]? else none)∧(sf'=true→sf=true)∧Q V hp sf'
structure OpenOK (f:FuncId) (Vs:List SV) (hp:List SM) (Q:SV→List SM→Prop):Prop where
 out: ∀φ H qs,RH φ hp (fun a=>H[a]?)→RL φ Vs qs→ ∃v H' φ' V hp',(lim P h).rn f qs H=some (v,H')∧Le φ φ'∧RH φ' hp' (fun a=>H'[a]?)∧RV φ' V v∧Q V hp'
structure LoopOK (F:Nat) (c:Cx) (b:Code) (tm:TM) (hp:List SM) (Q:Ex→TM→List SM→Prop):Prop where
 out: ∀φ st,F≤φ.length→SRep φ tm hp st→ ∃e st' φ' tm' hp',(lim P h).ex c (.loop b) st=some (e,st')∧Fr F φ φ'∧SRep φ' tm' hp' st'∧Q e tm' hp'
end
def Zg0 (f:SV→(SV→Prop)→Prop):List SV→(List SV→Prop)→Prop
 | [],k=>k []
 |v::r,k=>f v fun v'=>Zg0 f r fun r'=>k (v'::r')
def ZtW (ct:CT):List SV→Option (List ct.D)
 | []=>some []
 |V::r=>match ZbI ct [V]with
  |some x=>match ZtW ct r with
   |some xs=>some (x::xs)
   |none=>none
  |none=>none
def ZjD (hp:List SM):Nat→SV→(SV→Prop)→Prop
 |0,_,_=>False
 |1,_,_=>False
 |n+2,V,k=>match V with
  | .ref id i m _=>match nth hp id with
   |some (.row t l _)=>i+m≤l.length∧k (.v (.l t) (sub l i m))
   |some (.many ct els _)=>i+m≤els.length∧Zg0 (ZjD hp (n+1)) (sub els i m) fun cs=>match ZtW ct cs with
    |some xs=>k (.v (.l ct) xs)
    |none=>False
   |some (.cell cs _)=>(i=0∧m=1)∧Zg0 (ZjD hp (n+1)) cs fun cs'=> ∃ (ct:CT) (x:ct.D),ZbI ct cs'=some x∧k (.v (.l ct) [x])
   |_=>False
  | .ptr id i r=>match nth hp id with
   |some (.row t l _)=> ∃x,l[i]? =some x∧k (.box t x r)
   |_=>False
  | .func f a c=>Zg0 (ZjD hp (n+1)) a fun a'=>Zg0 (ZjD hp (n+1)) c fun c'=>k (.func f a' c')
  | .agg cs=>Zg0 (ZjD hp (n+1)) cs fun cs'=>k (.agg cs')
  | .tup vs=>Zg0 (ZjD hp (n+1)) vs fun vs'=>k (.tup vs')
  | .mp _=>False
  |V=>k V
def Zvq (hp:List SM):List SV→(List SV→Prop)→Prop:=Zg0 (ZjD hp 40)
mutual
def ZcZ:SV→List Nat
 | .ref id _ _ _=> [id]
 | .ptr id _ _=> [id]
 | .func _ a c=>rchL a++rchL c
 | .agg cs=>rchL cs
 | .tup vs=>rchL vs
 | .mp id=> [id]
 |_=> []
def rchL:List SV→List Nat
 | []=> []
 |v::r=>ZcZ v++rchL r
end
def ZhO (hp:List SM):Nat→SV→List Nat
 |0,_=> []
 |n+1,V=>match V with
  | .ref id i m _=>id::(match nth hp id with
   |some (.many _ els _)=>(sub els i m).flatMap (ZhO hp n)
   |some (.cell cs _)=>cs.flatMap (ZhO hp n)
   |_=> [])
  | .ptr id _ _=> [id]
  | .func _ a c=>a.flatMap (ZhO hp n)++c.flatMap (ZhO hp n)
  | .agg cs=>cs.flatMap (ZhO hp n)
  | .tup vs=>vs.flatMap (ZhO hp n)
  | .mp id=> [id]
  |_=> []
def Zrl (hp:List SM) (l:List SV):List Nat:=l.flatMap (ZhO hp 40)
def frz1 (hp:List SM) (id:Nat):List SM:=match nth hp id with
 |some (.row t l _)=>hp.set id (.row t l false)
 |some (.cell cs _)=>hp.set id (.cell cs false)
 |some (.many ct els _)=>hp.set id (.many ct els false)
 |_=>hp
def frzT (hp:List SM):List Nat→List SM
 | []=>hp
 |i::r=>frzT (frz1 hp i) r
def Zhs:SV→Bool
 | .v (.i _) _| .v .b _| .v .s _| .v .any _| .nilp| .nils| .nilf| .nili| .nilmp=>true
 |_=>false
def ZrD:SV→Bool
 | .tup vs=>vs.all Zhs
 | .agg cs=>cs.all Zhs
 |v=>Zhs v
mutual
def shS (b:Nat):SV→SV
 | .ref id i n m=> .ref (b+id) i n m
 | .ptr id i r=> .ptr (b+id) i r
 | .func f a c=> .func f (shL b a) (shL b c)
 | .agg cs=> .agg (shL b cs)
 | .tup vs=> .tup (shL b vs)
 | .v t x=> .v t x
 | .nilp=> .nilp
 | .nils=> .nils
 | .nilf=> .nilf
 | .nili=> .nili
 | .nilmp=> .nilmp
 | .box t x r=> .box t x r
 | .mp id=> .mp (b+id)
def shL (b:Nat):List SV→List SV
 | []=> []
 |v::r=>shS b v::shL b r
end
def shH (b:Nat):SM→SM
 | .row t l m=> .row t l m
 | .cell cs m=> .cell (shL b cs) m
 | .many ct els m=> .many ct (shL b els) m
 | .set ks=> .set ks
 | .dead=> .dead
def Ztt (b:Nat):List SM→List SM
 | []=> []
 |m::r=>shH b m::Ztt b r
section
variable (P : Program) (h : Hints) (T : TypeId → TI)
def Zvb (op:BinOp) (k1:IntKind) (a:Int) (k2:IntKind) (b:Int) (k:SV→Prop):Prop:=
 match op with
 | .shl=>0≤b∧k (.v (.i k1) (k1.wrap (a*2^(min b.toNat k1.bits))))
 | .shr=>0≤b∧k (.v (.i k1) (a.fdiv (2^(min b.toNat k1.bits))))
 |op=>match keq k1 k2 with
  |false=>False
  |true=>match op with
   | .add=>k (.v (.i k1) (k1.wrap (a+b)))
   | .sub=>k (.v (.i k1) (k1.wrap (a-b)))
   | .mul=>k (.v (.i k1) (k1.wrap (a*b)))
   | .quo=>b≠0∧k (.v (.i k1) (k1.wrap (a.tdiv b)))
   | .rem=>b≠0∧k (.v (.i k1) (a.tmod b))
   | .and=>k (.v (.i k1) (k1.wrap (BitVec.ofInt k1.bits a&&&BitVec.ofInt k1.bits b).toNat))
   | .or=>k (.v (.i k1) (k1.wrap (BitVec.ofInt k1.bits a|||BitVec.ofInt k1.bits b).toNat))
   | .xor=>k (.v (.i k1) (k1.wrap (BitVec.ofInt k1.bits a^^^BitVec.ofInt k1.bits b).toNat))
   | .andNot=>k (.v (.i k1) (k1.wrap (BitVec.ofInt k1.bits a&&& ~~~ (BitVec.ofInt k1.bits b)).toNat))
   | .eql=>k (.v .b (decide (a=b)))
   | .neq=>k (.v .b (!decide (a=b)))
   | .lss=>k (.v .b (decide (a<b)))
   | .leq=>k (.v .b (decide (a≤b)))
   | .gtr=>k (.v .b (decide (b<a)))
   | .geq=>k (.v .b (decide (b≤a)))
   |_=>False
def Zvd (op:BinOp) (a b:List UInt8) (k:SV→Prop):Prop:=
 match op with
 | .add=>a.length+b.length≤9223372036854775807∧k (.v .s (a++b))
 | .eql=>k (.v .b (a==b))
 | .neq=>k (.v .b (!(a==b)))
 | .lss=>k (.v .b (Op.bytesLess a b))
 | .leq=>k (.v .b (Op.bytesLess a b||a==b))
 | .gtr=>k (.v .b (!(Op.bytesLess a b||a==b)))
 | .geq=>k (.v .b (!Op.bytesLess a b))
 |_=>False
def eqB (op:BinOp) (r:Bool) (k:SV→Prop):Prop:=
 match op with
 | .eql=>k (.v .b r)
 | .neq=>k (.v .b (!r))
 |_=>False
def ZuU (op:BinOp) (t:TypeId) (x y:SV) (k:SV→Prop):Prop:=
 match x,y with
 | .v (.i k1) a, .v (.i k2) b=>Zvb op k1 a k2 b k
 | .v .s a, .v .s b=>Zvd op a b k
 | .v .b a, .v .b b=>match(T t).k with
  | .bool=>eqB op (a==b) k
  |_=>False
 | .nilp, .nilp=>match(T t).k with
  | .ptr=>eqB op true k
  |_=>False
 | .ptr _ _ _, .nilp=>match(T t).k with
  | .ptr=>eqB op false k
  |_=>False
 | .box _ _ _, .nilp=>match(T t).k with
  | .ptr=>eqB op false k
  |_=>False
 | .nils, .nils=>match(T t).k with
  | .slice _=>eqB op true k
  |_=>False
 | .v (.l _) xs, .nils=>match(T t).k with
  | .slice _=>(xs=[]→eqB op true k)∧eqB op false k
  |_=>False
 | .ref _ _ n _, .nils=>match(T t).k with
  | .slice _=>(n=0→eqB op true k)∧eqB op false k
  |_=>False
 |_,_=>False
def unT (op:UnOp) (x:SV) (k:SV→Prop):Prop:=
 match op,x with
 | .neg, .v (.i k1) n=>k (.v (.i k1) (k1.wrap (0-n)))
 | .not, .v .b b=>k (.v .b (!b))
 | .xor, .v (.i k1) n=>k (.v (.i k1) (k1.wrap (BitVec.ofInt k1.bits (if k1.signed then-1 else k1.max)^^^BitVec.ofInt k1.bits n).toNat))
 |_,_=>False
def Zgm (s:List UInt8):List Int:=s.map fun b=>(b.toNat:Int)
def Zpl (l:List Int):List UInt8:=l.map fun n=>UInt8.ofNat n.toNat
def ZsE (s d:TypeId) (hp:List SM) (x:SV) (k:SV→Prop):Prop:=
 match(T s).k,(T d).k,x with
 | .other,_,_=>False
 |_, .int k1, .v (.i _) n=>k (.v (.i k1) (k1.wrap n))
 | .int _, .str, .v (.i _) n=>(0≤n∧n<128)∧k (.v .s [UInt8.ofNat n.toNat])
 |_, .str, .v .s a=>k (.v .s a)
 | .str, .slice e, .v .s a=>match(T e).k with
  | .int .u8=>k (.v (.l (.i .u8)) (Zgm a))
  |_=>False
 | .slice e, .str, .v (.l (.i .u8)) a=>match(T e).k with
  | .int .u8=>k (.v .s (Zpl a))
  |_=>False
 | .slice e, .str, .ref id i n _=>match(T e).k with
  | .int .u8=>match nth hp id with
   |some (.row (.i .u8) l _)=>i+n≤l.length∧k (.v .s (Zpl (sub l i n)))
   |_=>False
  |_=>False
 |_,_,_=>False
def ZfC (i:TI) (cs:List SV) (off:Nat):Option SV:=
 match i.k with
 | .struct _| .arr _ _=>bif Nat.ble (off+i.sz) cs.length then some (.agg ((cs.drop off).take i.sz))else none
 | .other=>none
 |_=>nth cs off
def ZkH (t:TypeId) (hp:List SM) (x:SV) (k:SV→Prop):Prop:=
 match x with
 | .ptr id i r=>match nth hp id with
  |some (.row ct l _)=> ∃x,l[i]? =some x∧match ZfC (T t) (Zcq ct x) r with
   |some V=>k V
   |none=>False
  |some (.cell cs _)=>i=0∧match ZfC (T t) cs r with
   |some V=>k V
   |none=>False
  |some (.many _ els _)=> ∃V,els[i]? =some V∧match ZfC (T t) [V] r with
   |some V=>k V
   |none=>False
  |_=>False
 | .box ct x r=>match ZfC (T t) (Zcq ct x) r with
  |some V=>k V
  |none=>False
 |_=>False
def Zpm:SV→Bool
 | .agg _| .tup _=>false
 |_=>true
def Zg4 (t:TypeId) (hp:List SM) (a x:SV) (k:SV→List SM→Prop):Prop:=
 match a with
 | .ptr id i r=>match ZdI x&&Nat.beq (Za7 x).length (T t).sz with
  |true=>match nth hp id with
   |some (.row ct l true)=> ∃y,l[i]? =some y∧match(T t).k,Nat.ble (r+(T t).sz) ct.w,ZbI ct (spl (Zcq ct y) r (Za7 x))with
    | .other,_,_=>False
    |_,true,some z=>k (.tup []) (hp.set id (.row ct (l.set i z) true))
    |_,_,_=>False
   |some (.cell cs true)=>i=0∧match(T t).k,Nat.ble (r+(T t).sz) cs.length with
    | .other,_=>False
    |_,true=>k (.tup []) (hp.set id (.cell (spl cs r (Za7 x)) true))
    |_,_=>False
   |some (.many ct els true)=>i<els.length∧match(T t).k,Nat.beq r 0&&Zpm x with
    | .other,_=>False
    |_,true=>k (.tup []) (hp.set id (.many ct (els.set i x) true))
    |_,_=>False
   |_=>False
  |false=>False
 |_=>False
def ixT (z:Nat) (hp:List SM) (x:SV) (j:Int) (k:SV→Prop):Prop:=
 match x with
 | .v (.l ct) xs=>match Nat.beq ct.w z with
  |true=> ∃y,0≤j∧xs[j.toNat]? =some y∧k (.box ct y 0)
  |false=>False
 | .ref id i n _=>match nth hp id with
  |some (.row ct _ _)=>match Nat.beq ct.w z with
   |true=>(0≤j∧j<n)∧k (.ptr id (i+j.toNat) 0)
   |false=>False
  |some (.cell cs _)=>match Nat.beq cs.length z with
   |true=>(0≤j∧j<n)∧k (.ptr id (i+j.toNat) 0)
   |false=>False
  |some (.many _ _ _)=>match Nat.beq 1 z with
   |true=>(0≤j∧j<n)∧k (.ptr id (i+j.toNat) 0)
   |false=>False
  |_=>False
 |_=>False
def Zd4 (t:TypeId) (hp:List SM) (x ix:SV) (k:SV→Prop):Prop:=
 match ix with
 | .v (.i _) j=>match(T t).k with
  | .slice e=>match(T e).k with
   | .other=>False
   |_=>ixT (T e).sz hp x j k
  | .arr n e=>match(T e).k with
   | .other=>False
   |_=>match x with
    | .ptr id i r=>(0≤j∧j<n)∧k (.ptr id i (r+j.toNat*(T e).sz))
    | .box ct y r=>(0≤j∧j<n)∧k (.box ct y (r+j.toNat*(T e).sz))
    |_=>False
  |_=>False
 |_=>False
def Zpo (t:TypeId) (x ix:SV) (k:SV→Prop):Prop:=
 match ix with
 | .v (.i _) j=>match(T t).k,x with
  | .str, .v .s s=> ∃b,0≤j∧s[j.toNat]? =some b∧k (.v (.i .u8) (b.toNat:Int))
  | .arr n e, .agg cs=>(0≤j∧j<n)∧match(T e).k,ZfC (T e) cs (j.toNat*(T e).sz)with
   | .other,_=>False
   |_,some V=>k V
   |_,none=>False
  |_,_=>False
 |_=>False
def ZfG (s:TypeId) (x:SV) (f:Nat) (k:SV→Prop):Prop:=
 match(T s).k with
 | .struct fs=>match nth fs f with
  |some (off,_,n+1)=>match x with
   | .ptr id i r=>k (.ptr id i (r+off))
   | .box ct y r=>k (.box ct y (r+off))
   |_=>False
  |_=>False
 |_=>False
def Zph (s:TypeId) (x:SV) (f:Nat) (k:SV→Prop):Prop:=
 match(T s).k,x with
 | .struct fs, .agg cs=>match nth fs f with
  |some (off,ty,_)=>match ZfC (T ty) cs off with
   |some V=>k V
   |none=>False
  |none=>False
 |_,_=>False
def Zvj (t:TypeId) (x:SV) (k:SV→Prop):Prop:=
 match(T t).k,x with
 | .str, .v .s s=>k (.v (.i .i64) (s.length:Int))
 | .slice _, .v (.l _) xs=>k (.v (.i .i64) (xs.length:Int))
 | .slice _, .nils=>k (.v (.i .i64) (0:Int))
 | .slice _, .ref _ _ n _=>k (.v (.i .i64) (n:Int))
 | .arr n _,_=>k (.v (.i .i64) (n:Int))
 |_,_=>False
def mmT (mx:Bool) (x y:SV) (k:SV→Prop):Prop:=
 match x,y with
 | .v (.i k1) a, .v (.i k2) b=>match keq k1 k2 with
  |true=>k (.v (.i k1) (match mx with|true=>(if b>a then b else a)|false=>(if b<a then b else a)))
  |false=>False
 |_,_=>False
def Zod (mx:Bool):List SV→SV→(SV→Prop)→Prop
 | [],a,k=>k a
 |b::r,a,k=>mmT mx a b fun c=>Zod mx r c k
def ZqH (fs:List (Nat×TypeId×Nat)):List SV→List (Nat×SV)→Option (List SV)
 |cs,[]=>some cs
 |cs,(i,V)::r=>match nth fs i with
  |some (off,_,n)=>bif Nat.beq (Za7 V).length n&&Nat.ble (off+n) cs.length then ZqH fs (spl cs off (Za7 V)) r else none
  |none=>none
def Zrw (n:Nat):List SV→List (Nat×SV)→Option (List SV)
 |cs,[]=>some cs
 |cs,(i,V)::r=>bif Nat.beq (Za7 V).length n&&Nat.ble (i*n+n) cs.length then Zrw n (spl cs (i*n) (Za7 V)) r else none
def Zkh (tm:TM):List (Nat×Operand)→Option (List (Nat×SV))
 | []=>some []
 |(i,x)::r=>match evS tm x with
  |some V=>bif ZdI V then(match Zkh tm r with
   |some l=>some ((i,V)::l)
   |none=>none)else none
  |none=>none
def Zpt (t:TypeId) (ps:List (Nat×SV)) (k:SV→Prop):Prop:=
 match(T t).k with
 | .struct fs=>match ZqH fs (T t).zero ps with
  |some cs=>k (.agg cs)
  |none=>False
 | .arr _ e=>match(T e).k,Zrw (T e).sz (T t).zero ps with
  | .other,_=>False
  |_,some cs=>k (.agg cs)
  |_,none=>False
 |_=>False
def ZqQ (ct:CT):List ct.D→List (Nat×SV)→Option (List ct.D)
 |l,[]=>some l
 |l,(i,V)::r=>match ZbI ct (Za7 V)with
  |some x=>bif Nat.ble (i+1) l.length then ZqQ ct (l.set i x) r else none
  |none=>none
def okN:Nat→List (Nat×SV)→Bool
 |0,[]=>true
 |0,_::_=>false
 |_+1,_=>true
def Zrd:Nat→List (Nat×SV)→Option (List SV)
 |_,[]=>some []
 |i,(j,V)::r=>match Nat.beq i j&&Zpm V with
  |true=>match Zrd (i+1) r with
   |some l=>some (V::l)
   |none=>none
  |false=>none
def ZeS (t:TypeId) (n:Nat) (ps:List (Nat×SV)) (hp:List SM) (k:SV→List SM→Prop):Prop:=
 match(T t).k with
 | .slice e=>match(T e).k,okN n ps,Nat.ble 1 (T e).sz&&Nat.ble (n*(T e).sz) 16777216 with
  | .other,_,_=>False
  |_,true,true=>match(T e).ct with
   |some ct=>match ZqQ ct (List.replicate n ct.z) ps with
    |some l=>k (.ref hp.length 0 n none) (hp++ [.row ct l true])
    |none=>match Zrd 0 ps,Nat.beq (T e).sz 1,Nat.beq ps.length n with
     |some els,true,true=>k (.ref hp.length 0 n none) (hp++ [.many ct els true])
     |_,_,_=>match n,ps with
      |1,[(0,V)]=>match Nat.beq (Za7 V).length (T e).sz with
       |true=>k (.ref hp.length 0 1 none) (hp++ [.cell (Za7 V) true])
       |false=>False
      |_,_=>False
   |none=>match n,ps with
    |1,[(0,V)]=>match Nat.beq (Za7 V).length (T e).sz with
     |true=>k (.ref hp.length 0 1 none) (hp++ [.cell (Za7 V) true])
     |false=>False
    |_,_=>False
  |_,_,_=>False
 |_=>False
def Zu8:Operand→Operand→Bool
 | .tmp a, .tmp b=>Nat.beq a b
 | .const (.int k a), .const (.int k' b)=>keq k k'&&(a==b)
 |_,_=>false
def ZfO (t:TypeId) (lo co:Operand) (tm:TM) (hp:List SM) (k:SV→List SM→Prop):Prop:=
 match evS tm lo,evS tm co with
 |some (.v (.i _) l),some (.v (.i _) c)=>match(T t).k with
  | .slice e=>match(T e).k,(T e).ct,Nat.ble 1 (T e).sz with
   | .other,_,_=>False
   |_,some ct,true=>(0≤l∧l≤c∧(T e).by_*c≤281474976710656∧c<9223372036854775808)∧match Zu8 lo co with
    |true=>match(T e).zero with
     | [.nils]=>k (.ref hp.length 0 l.toNat none) (hp++ [.many ct (List.replicate l.toNat .nils) true])
     |_=>k (.ref hp.length 0 l.toNat none) (hp++ [.row ct (List.replicate l.toNat ct.z) true])
    |false=>k (.ref hp.length 0 l.toNat (some c.toNat)) (hp++ [.row ct (List.replicate c.toNat ct.z) true])
   |_,_,_=>False
  |_=>False
 |_,_=>False
def ZsF (tm:TM) (n m:Nat) (lo hi:Option Operand) (k:Nat→Nat→Prop):Prop:=
 match lo,hi with
 |none,none=>k 0 n
 |some x,none=>match evS tm x with
  |some (.v (.i _) l)=>(0≤l∧l≤n)∧k l.toNat n
  |_=>False
 |none,some y=>match evS tm y with
  |some (.v (.i _) u)=>(0≤u∧u≤m)∧k 0 u.toNat
  |_=>False
 |some x,some y=>match evS tm x,evS tm y with
  |some (.v (.i _) l),some (.v (.i _) u)=>(0≤l∧l≤u∧u≤m)∧k l.toNat u.toNat
  |_,_=>False
def Zo3 (t:TypeId) (tm:TM) (hp:List SM) (x:SV) (lo hi:Option Operand) (k:SV→Prop):Prop:=
 match(T t).k,x with
 | .str, .v .s s=>ZsF tm s.length s.length lo hi fun l u=>k (.v .s ((s.take u).drop l))
 | .slice e, .v (.l ct) xs=>match(T e).k,Nat.beq ct.w (T e).sz with
  | .other,_=>False
  |_,true=>ZsF tm xs.length xs.length lo hi fun l u=>k (.v (.l ct) ((xs.take u).drop l))
  |_,_=>False
 | .slice e, .ref id i n m=>match(T e).k,nth hp id with
  | .other,_=>False
  |_,some (.row ct _ _)=>match Nat.beq ct.w (T e).sz with
   |true=>match hi,m with
    |none,none=>ZsF tm n n lo hi fun l u=>k (.ref id (i+l) (u-l) none)
    |_,_=>ZsF tm n (m.getD n) lo hi fun l u=>k (.ref id (i+l) (u-l) (some (m.getD n-l)))
   |false=>False
  |_,_=>False
 | .slice e, .nils=>match(T e).k with
  | .other=>False
  |_=>ZsF tm 0 0 lo hi fun _ _=>k .nils
 |_,_=>False
def Zk4 (t:TypeId) (tm:TM) (hp:List SM) (x:SV) (lo hi mx:Option Operand) (k:SV→Prop):Prop:=
 match(T t).k,x,lo,hi,mx with
 | .slice e, .ref id i n m,some a,some b,some c=>match(T e).k,nth hp id with
  | .other,_=>False
  |_,some (.row ct _ _)=>match Nat.beq ct.w (T e).sz with
   |true=>match evS tm a,evS tm b,evS tm c with
    |some (.v (.i _) l),some (.v (.i _) u),some (.v (.i _) w)=>(0≤l∧l≤u∧u≤w∧w≤m.getD n)∧k (.ref id (i+l.toNat) (u.toNat-l.toNat) (some (w.toNat-l.toNat)))
    |_,_,_=>False
   |false=>False
  |_,_=>False
 |_,_,_,_,_=>False
def ZoY (ct:CT) (hp:List SM) (x:SV) (k:List ct.D→Prop):Prop:=
 match x with
 | .nils=>k ([]:List ct.D)
 | .v (.l e) xs=>if h:ceq e ct=true then k (ZfH e ct h xs)else False
 | .v .s s=>match ct,k with
  | .i .u8,k=>k (Zgm s)
  |_,_=>False
 | .ref id i n _=>match nth hp id with
  |some (.row e l _)=>if h:ceq e ct=true then i+n≤l.length∧k (ZfH e ct h (sub l i n))else False
  |_=>False
 |_=>False
def Zrq (ct:CT) (by_:Nat) (hp:List SM) (s:SV) (new:List ct.D) (k:SV→List SM→Prop):Prop:=
 match s with
 | .nils=>match new with
  | []=>k .nils hp
  |x::r=>(r.length+1)*by_≤140737488355328∧k (.ref hp.length 0 (r.length+1) none) (hp++ [.row ct (x::r) true])
 | .ref id i n m=>match nth hp id with
  |some (.row e l true)=>if h:ceq e ct=true then i+n≤l.length∧match new with
   | []=>k (.ref id i n m) hp
   |x::r=>match m with
    |none=>(n+(r.length+1))*by_≤140737488355328∧k (.ref hp.length 0 (n+(r.length+1)) none) (hp.set id .dead++ [.row ct (ZfH e ct h (sub l i n)++x::r) true])
    |some c=>(n+(r.length+1)≤c→i+(n+(r.length+1))≤l.length∧k (.ref id i (n+(r.length+1)) (some c)) (hp.set id (.row ct (spl (ZfH e ct h l) (i+n) (x::r)) true)))∧
     (c<n+(r.length+1)→(n+(r.length+1))*by_≤140737488355328∧k (.ref hp.length 0 (n+(r.length+1)) none) (hp.set id .dead++ [.row ct (ZfH e ct h (sub l i n)++x::r) true]))
   else False
  |_=>False
 |_=>False
def ZhJ (ts:List TypeId) (hp:List SM) (s x:SV) (k:SV→List SM→Prop):Prop:=
 match ts with
 |t::t2::_=>match(T t).k,(T t2).k with
  | .slice _, .int _=>False
  | .slice _, .other=>False
  | .slice e,_=>match(T e).k,(T e).ct,Nat.ble 1 (T e).by_&&Nat.ble 1 (T e).sz with
   | .other,_,_=>False
   |_,some ct,true=>match h.frz t with
    |true=>ZjD hp 40 x fun V=>ZoY ct [] V fun new=>Zrq ct (T e).by_ (frzT hp (ZhO hp 40 x)) s new k
    |false=>ZoY ct hp x fun new=>Zrq ct (T e).by_ hp s new k
   |_,_,_=>False
  |_,_=>False
 |_=>False
def Zso (ts:List TypeId) (hp:List SM) (d x:SV) (k:SV→List SM→Prop):Prop:=
 match ts with
 |t::_=>match(T t).k with
  | .slice e=>match(T e).k,(T e).ct,Nat.ble 1 (T e).sz with
   | .other,_,_=>False
   |_,some ct,true=>ZoY ct hp x fun new=>match d with
    | .nils=>k (.v (.i .i64) (0:Int)) hp
    | .ref id i n _=>match nth hp id with
     |some (.row e' l true)=>if hc:ceq e' ct=true then i+n≤l.length∧k (.v (.i .i64) ((min new.length n:Nat):Int)) (hp.set id (.row ct (spl (ZfH e' ct hc l) i (new.take n)) true))else False
     |_=>False
    |_=>False
   |_,_,_=>False
  |_=>False
 |_=>False
def Zoj (ts:List TypeId) (hp:List SM) (d:SV) (k:SV→List SM→Prop):Prop:=
 match ts with
 |t::_=>match(T t).k with
  | .slice e=>match(T e).k,(T e).ct,Nat.ble 1 (T e).sz with
   | .other,_,_=>False
   |_,some ct,true=>match d with
    | .nils=>k (.tup []) hp
    | .ref id i n _=>match nth hp id with
     |some (.row e' l true)=>if hc:ceq e' ct=true then i+n≤l.length∧k (.tup []) (hp.set id (.row ct (spl (ZfH e' ct hc l) i (List.replicate n ct.z)) true))else False
     |_=>False
    |_=>False
   |_,_,_=>False
  |_=>False
 |_=>False
def ZgF (f:FuncId) (args:List SV) (hp:List SM) (k:SV→List SM→Prop):Prop:=
 match h.opn f with
 |true=>OpenOK P h f args hp k
 |false=>Zvq hp args fun qs=>match h.imp f with
  |true=>ImpOK P h f qs fun V hn sf=>k (shS hp.length V) ((match sf with|true=>hp|false=>frzT hp (Zrl hp args))++Ztt hp.length hn)
  |false=>PureOK P h f qs fun V=>match h.mem f with
   |true=>k V (frzT hp (Zrl hp args))
   |false=>match ZrD V with
    |true=>k V hp
    |false=>False
def ZpB (c:Call) (tm:TM) (hp:List SM) (k:SV→List SM→Prop):Prop:=
 match evL tm c.args.toList with
 |none=>False
 |some vs=>match c.callee with
  | .builtin b=>match b,vs with
   | .len,[x]=>match c.argTypes.toList with
    |t::_=>Zvj T t x fun V=>k V hp
    |_=>False
   | .min,x::r=>Zod false r x fun V=>k V hp
   | .max,x::r=>Zod true r x fun V=>k V hp
   | .append,[s,x]=>ZhJ h T c.argTypes.toList hp s x k
   | .copy,[s,x]=>Zso T c.argTypes.toList hp s x k
   | .clear,[s]=>Zoj T c.argTypes.toList hp s k
   |_,_=>False
  | .value (.func f)=>ZgF P h f vs hp k
  | .value x=>match evS tm x with
   |some (.func f a d)=>ZgF P h f (a++vs++d) hp k
   |_=>False
  |_=>False
def Zq4 (s:List UInt8):List (List UInt8)→List (List UInt8)
 | []=> [s]
 |k::r=>bif s==k then k::r else k::Zq4 s r
def Zn8 (s:List UInt8):List (List UInt8)→Bool
 | []=>false
 |k::r=>bif s==k then true else Zn8 s r
def AV.is (u:TypeId):AV→Option SV
 | .nil=>none
 | .i t k n=>match Nat.beq t u with
  |true=>some (.v (.i k) n)
  |false=>none
 | .s t x=>match Nat.beq t u with
  |true=>some (.v .s x)
  |false=>none
def asT (V:Option SV) (Z:SV) (ok:Bool) (k:SV→Prop):Prop:=
 match V,ok with
 |some V,true=>k (.tup [V, .v .b true])
 |some V,false=>k V
 |none,true=>k (.tup [Z, .v .b false])
 |none,false=>False
def Zlk (y:AV) (u:TypeId) (ok:Bool) (k:SV→Prop):Prop:=
 match(T u).k with
 | .int k0=>asT (y.is u) (.v (.i k0) (0:Int)) ok k
 | .str=>asT (y.is u) (.v .s []) ok k
 |_=>False
def opT (op:Op) (tm:TM) (hp:List SM) (k:SV→List SM→Prop):Prop:=
 match op with
 | .move x=>match evS tm x with
  |some V=>k V hp
  |none=>False
 | .assign x=>match evS tm x with
  |some V=>k V hp
  |none=>False
 | .pick c a b=>match evS tm c with
  |some (.v .b t)=>(t=true→match evS tm a with|some V=>k V hp|none=>False)∧(t=false→match evS tm b with|some V=>k V hp|none=>False)
  |_=>False
 | .alloc t=>match(T t).k with
  | .other=>False
  |_=>k (.ptr hp.length 0 0) (hp++ [.cell (T t).zero true])
 | .box _ x=>match evS tm x with
  |some V=>match ZdI V with
   |true=>k (.ptr hp.length 0 0) (hp++ [.cell (Za7 V) true])
   |false=>False
  |none=>False
 | .build t ps=>match Zkh tm ps.toList with
  |some l=>Zpt T t l fun V=>k V hp
  |none=>False
 | .buildSlice t n ps=>match Zkh tm ps.toList with
  |some l=>ZeS T t n l hp k
  |none=>False
 | .load t a=>match evS tm a with
  |some V=>ZkH T t hp V fun V=>k V hp
  |none=>False
 | .nilCheck x=>match evS tm x with
  |some (.ptr id i r)=>k (.ptr id i r) hp
  |some (.box t x r)=>k (.box t x r) hp
  |some (.func f a c)=>k (.func f a c) hp
  |_=>False
 | .binOp op t x y _=>match evS tm x,evS tm y with
  |some a,some b=>ZuU T op t a b fun V=>k V hp
  |_,_=>False
 | .unOp op _ x=>match evS tm x with
  |some a=>unT op a fun V=>k V hp
  |none=>False
 | .convert s d x=>match evS tm x with
  |some a=>ZsE T s d hp a fun V=>k V hp
  |none=>False
 | .makeInterface t x=>match(T t).k,evS tm x with
  | .int _,some (.v (.i k') n)=>k (.v .any (AV.i t k' n)) hp
  | .str,some (.v .s s)=>k (.v .any (AV.s t s)) hp
  |_,_=>False
 | .typeAssert x _ u ok=>match evS tm x with
  |some (.v .any y)=>Zlk T y u ok fun V=>k V hp
  |_=>False
 | .makeFunc fn first caps=>match fn with
  | .func f=>match evL tm first.toList,evL tm caps.toList with
   |some a,some c=>k (.func f a c) hp
   |_,_=>False
  |_=>False
 | .makeSlice t l c=>ZfO T t l c tm hp k
 | .slice t x lo hi mx=>match mx,evS tm x with
  |none,some V=>Zo3 T t tm hp V lo hi fun V=>k V hp
  |some y,some V=>Zk4 T t tm hp V lo hi (some y) fun V=>k V hp
  |_,_=>False
 | .fieldAddr s x f=>match evS tm x with
  |some V=>ZfG T s V f fun V=>k V hp
  |none=>False
 | .field s x f=>match evS tm x with
  |some V=>Zph T s V f fun V=>k V hp
  |none=>False
 | .indexAddr t x j=>match evS tm x,evS tm j with
  |some V,some J=>Zd4 T t hp V J fun V=>k V hp
  |_,_=>False
 | .index t x j=>match evS tm x,evS tm j with
  |some V,some J=>Zpo T t V J fun V=>k V hp
  |_,_=>False
 | .extract x i=>match evS tm x with
  |some (.tup vs)=>match nth vs i with
   |some V=>k V hp
   |none=>False
  |_=>False
 | .call c=>ZpB P h T c tm hp k
 | .store t a x=>match evS tm a,evS tm x with
  |some A,some V=>Zg4 T t hp A V k
  |_,_=>False
 | .makeMap t r=>match(T t).k,r with
  | .smap,none=>k (.mp hp.length) (hp++ [.set []])
  |_,_=>False
 | .lookup t x j ok=>match(T t).k,evS tm x,evS tm j,ok with
  | .smap,some (.mp id),some (.v .s s),false=>match nth hp id with
   |some (.set ks)=>k (.v .b (Zn8 s ks)) hp
   |_=>False
  |_,_,_,_=>False
 | .mapUpdate t m j x=>match(T t).k,evS tm m,evS tm j,evS tm x with
  | .smap,some (.mp id),some (.v .s s),some (.v .b true)=>match nth hp id with
   |some (.set ks)=>k (.tup []) (hp.set id (.set (Zq4 s ks)))
   |_=>False
  |_,_,_,_=>False
 |_=>False
def Zes (N:Nat) (dst:Option Tmp) (V:SV) (tm:TM) (k:TM→Prop):Prop:=
 match dst with
 |none=>k tm
 |some d=>match Nat.ble (d+1) N with
  |true=>k ((d,V)::tm)
  |false=>False
def wpOps (N:Nat) (ds:List (Option Tmp)):List Oper→TM→List SM→(TM→List SM→Prop)→Prop
 | [],tm,hp,k=>k tm hp
 |o::l,tm,hp,k=>match o.guard with
  |none=>opT P h T o.op tm hp fun V hp'=>Zes N o.dst V tm fun tm'=>wpOps N ds l tm' hp' k
  |some (j,w)=>match nth ds j with
   |some (some d)=>match Zcp d tm with
    |some (.v .b t)=>(t=w→opT P h T o.op tm hp fun V hp'=>Zes N o.dst V tm fun tm'=>wpOps N ds l tm' hp' k)∧
     (t= !w→Zes N o.dst (.tup []) tm fun tm'=>wpOps N ds l tm' hp k)
    |some (.tup [])=>Zes N o.dst (.tup []) tm fun tm'=>wpOps N ds l tm' hp k
    |_=>False
   |_=>False
def Zh8 (hp:List SM) (id:Nat):Bool:=match nth hp id with
 |some m=>live m
 |none=>false
def Zpu (id:Nat):List Nat→Bool
 | []=>false
 |j::r=>match Nat.beq id j with
  |true=>true
  |false=>Zpu id r
def Zg2 (hp:List SM):List Nat→Bool
 | []=>true
 |j::r=>Zh8 hp j&&Zg2 hp r
def ZkG:List (Nat×Nat×Bool)→List Nat
 | []=> []
 |(_,id,true)::r=>id::ZkG r
 |(_,_,false)::r=>ZkG r
def ZuP:List (Nat×Nat×Bool)→List Nat
 | []=> []
 |(_,id,_)::r=>id::ZuP r
def Zu6 (tm:TM) (c:Call):Option (Option Nat):=match c.callee with
 | .builtin .append=>match c.args.toList with
  |x::_=>match evS tm x with
   |some .nils=>some none
   |some (.ref id _ _ _)=>some (some id)
   |_=>none
  | []=>none
 |_=>none
noncomputable def Zpc (o:Oper):List (Nat×Nat×Bool)→List (Nat×Nat×Bool)
 | []=> []
 |x::r=>match Zc3 o x.1 with
  |true=>Zpc o r
  |false=>x::Zpc o r
noncomputable def ZqY (o:Oper) (ks:List (Nat×Nat×Bool)):List (Nat×Nat×Bool):=
 match isW h o with
 |true=>Zpc o ks
 |false=>ks
def Zur:SM→Option Nat
 | .row t _ _=>some t.w
 | .cell cs _=>some cs.length
 | .many _ _ _=>some 1
 | .set _=>none
 | .dead=>none
def ZqL (hp hp':List SM):List (Nat×Nat×Bool)→Bool
 | []=>true
 |(_,id,_)::r=>match(nth hp id).bind Zur,(nth hp' id).bind Zur with
  |some a,some b=>Nat.beq a b&&ZqL hp hp' r
  |_,_=>false
def Zu5 (tm:TM) (c:Call):Bool:=match c.callee with
 | .value (.func _)=>false
 | .value x=>match evS tm x with
  |some (.func f _ _)=> !h.opn f
  |_=>false
 |_=>false
def ZsG (b:Bool) (p:Prop):Prop:=match b with
 |true=>p
 |false=>False
noncomputable def ZbT (N:Nat) (ls:List Nat):List Oper→Nat→List (Nat×Nat×Bool)→TM→List SM→(TM→List SM→Prop)→Prop
 | [],_,_,tm,hp,k=>k tm hp
 |o::l,i,ks,tm,hp,k=>match has i ls with
  |true=>match o.op with
   | .load t a=>match evS tm a with
    |some (.ptr id _ _)=>opT P h T (.load t a) tm hp fun V hp'=>Zes N o.dst V tm fun tm'=>ZbT N ls l (i+1) ((i,id,true)::ks) tm' hp' k
    |some (.box _ _ _)=>opT P h T (.load t a) tm hp fun V hp'=>Zes N o.dst V tm fun tm'=>ZbT N ls l (i+1) ks tm' hp' k
    |_=>False
   | .move x=>opT P h T (.move x) tm hp fun V hp'=>Zes N o.dst V tm fun tm'=>ZbT N ls l (i+1) ks tm' hp' k
   | .indexAddr t x j=>match evS tm x with
    |some (.ref id _ _ _)=>opT P h T (.indexAddr t x j) tm hp fun V hp'=>Zes N o.dst V tm fun tm'=>ZbT N ls l (i+1) ((i,id,false)::ks) tm' hp' k
    |some (.v (.l _) _)=>opT P h T (.indexAddr t x j) tm hp fun V hp'=>Zes N o.dst V tm fun tm'=>ZbT N ls l (i+1) ks tm' hp' k
    |_=>False
   | .binOp bo t x y z=>opT P h T (.binOp bo t x y z) tm hp fun V hp'=>Zes N o.dst V tm fun tm'=>ZbT N ls l (i+1) ks tm' hp' k
   | .slice t x lo hi mx=>match evS tm x with
    |some (.v (.l _) _)=>opT P h T (.slice t x lo hi mx) tm hp fun V hp'=>Zes N o.dst V tm fun tm'=>ZbT N ls l (i+1) ks tm' hp' k
    |_=>False
   |_=>False
  |false=>match ZqY h o ks with
   | []=>opT P h T o.op tm hp fun V hp'=>Zes N o.dst V tm fun tm'=>ZbT N ls l (i+1) [] tm' hp' k
   |y::ks'=>match isW h o with
    |false=>opT P h T o.op tm hp fun V hp'=>Zes N o.dst V tm fun tm'=>ZbT N ls l (i+1) (y::ks') tm' hp' k
    |true=>match ZkG (y::ks')with
     | []=>opT P h T o.op tm hp fun V hp'=>ZsG (ZqL hp hp' (y::ks')) (Zes N o.dst V tm fun tm'=>ZbT N ls l (i+1) (y::ks') tm' hp' k)
     |id0::ids=>match o.op with
      | .store t a x=>match evS tm a with
       |some (.ptr id' j r)=>match Zh8 hp id'&&Zg2 hp (id0::ids)&& !Zpu id' (id0::ids)with
        |true=>opT P h T (.store t a x) tm hp fun V hp'=>Zes N o.dst V tm fun tm'=>ZbT N ls l (i+1) (y::ks') tm' hp' k
        |false=>False
       |_=>False
      | .call c=>match Zu5 h tm c with
       |true=>opT P h T (.call c) tm hp fun V hp'=>Zes N o.dst V tm fun tm'=>ZbT N ls l (i+1) (y::ks') tm' hp' k
       |false=>match Zu6 tm c with
        |some none=>opT P h T (.call c) tm hp fun V hp'=>Zes N o.dst V tm fun tm'=>ZbT N ls l (i+1) (y::ks') tm' hp' k
        |some (some id')=>match Zh8 hp id'&&Zg2 hp (ZuP (y::ks'))&& !Zpu id' (ZuP (y::ks'))with
         |true=>opT P h T (.call c) tm hp fun V hp'=>Zes N o.dst V tm fun tm'=>ZbT N ls l (i+1) (y::ks') tm' hp' k
         |false=>False
        |none=>False
      |_=>False
def Zub:List Oper→List (Option Tmp)
 | []=> []
 |o::r=>o.dst::Zub r
def ZuR (k:Ex→TM→List SM→Prop) (next:TM→List SM→Prop):Ex→TM→List SM→Prop
 | .normal,tm,hp=>next tm hp
 |e,tm,hp=>k e tm hp
def ZtF (id:Nat) (k:Ex→TM→List SM→Prop):Ex→TM→List SM→Prop
 | .exit j,tm,hp=>match Nat.beq j id with
  |true=>k .normal tm hp
  |false=>k (.exit j) tm hp
 |e,tm,hp=>k e tm hp
noncomputable def wpR (N:Nat) (ls:List Nat) (ops:Array Oper) (tm:TM) (hp:List SM) (k:TM→List SM→Prop):Prop:=
 match ls with
 | []=>wpOps P h T N (Zub ops.toList) ops.toList tm hp k
 |j::ls=>match noG ops.toList with
  |true=>ZbT P h T N (j::ls) ops.toList 0 [] tm hp k
  |false=>False
noncomputable def wp (F:Nat) (c:Cx):Code→TM→List SM→(Ex→TM→List SM→Prop)→Prop
 | .skip,tm,hp,k=>k .normal tm hp
 | .label _,tm,hp,k=>k .normal tm hp
 | .region id ops _,tm,hp,k=>match h.perm c.fid id with
  | []=>wpR P h T c.N (h.light c.fid id) ops tm hp fun tm' hp'=>k .normal tm' hp'
  |i::r=>wpR P h T c.N (h.light c.fid id) (rgo (i::r) ops) tm hp fun tm' hp'=>k .normal tm' hp'
 | .seq a b,tm,hp,k=>wp F c a tm hp (ZuR k fun tm' hp'=>wp F c b tm' hp' k)
 | .cond x a b,tm,hp,k=>match evS tm x with
  |some (.v .b t)=>(t=true→wp F c a tm hp k)∧(t=false→wp F c b tm hp k)
  |_=>False
 | .block id b,tm,hp,k=>match h.keepB c.fid id with
  |none=>wp F c b tm hp (ZtF id k)
  |some _=>False
 | .loop b,tm,hp,k=>LoopOK P h F c b tm hp k
 | .exit id,tm,hp,k=>k (.exit id) tm hp
 | .ret,tm,hp,k=>k .ret tm hp
 |_,_,_,_=>False
def Zts (tm:TM) (hp:List SM):List ResultVar→(List SV→Prop)→Prop
 | [],k=>k []
 | .tmp t::r,k=>match Zcp t tm with
  |some V=>Zts tm hp r fun l=>k (V::l)
  |none=>False
 | .cell a t::r,k=>match Zcp a tm with
  |some V=>ZkH T t hp V fun V=>Zts tm hp r fun l=>k (V::l)
  |none=>False
def ZuL:List SV→SV
 | [V]=>V
 |l=> .tup l
def Zfi:Nat→List SV→TM
 |_,[]=> []
 |i,V::r=>(i,V)::Zfi (i+1) r
def Zt9 (rs:List ResultVar) (k:SV→List SM→Prop):Ex→TM→List SM→Prop
 | .exit _,_,_=>False
 |_,tm,hp=>Zts T tm hp rs fun l=>k (ZuL l) hp
inductive Im where
 |is (id:Nat)|nil
def Zuu:(t t':CT)→List t.D→List t'.D→Prop
 | .i k, .i k',l,l'=>match keq k k' with
  |true=>l'=l
  |false=>False
 | .b, .b,l,l'=>l'=l
 | .s, .s,l,l'=>l'=l
 |t,t',l,l'=>if h:ceq t t'=true then l'=ZfH t t' h l else False
def ZuO (σ:List Im):SV→SV→Prop
 | .v (.i k) x, .v (.i k') x'=>match keq k k' with
  |true=>x'=x
  |false=>False
 | .v .b x, .v .b x'=>x'=x
 | .v .s x, .v .s x'=>x'=x
 | .v .any x, .v .any x'=>x'=x
 | .v (.l e) x, .v (.l e') x'=>Zuu e e' x x'
 | .nils, .v (.l t) x'=>x'=([]:List t.D)
 | .nils, .nils=>True
 | .nilp, .nilp=>True
 | .nilf, .nilf=>True
 | .nili, .nili=>True
 | .nils, .ref j i' n' m'=>match nth σ j with
  |some .nil=>i'=0∧n'=0∧m'.getD n'=0
  |_=>False
 | .ref id i n m, .ref j i' n' m'=>match nth σ j with
  |some (.is d)=>match Nat.beq d id with
   |true=>i'=i∧n'=n∧m'.getD n'=m.getD n
   |false=>False
  |_=>False
 | .ptr id i r, .ptr j i' r'=>match nth σ j with
  |some (.is d)=>match Nat.beq d id with
   |true=>i'=i∧r'=r
   |false=>False
  |_=>False
 | .box t x r, .box t' x' r'=>Zuu t t' [x] [x']∧r'=r
 |_,_=>False
def Zk3 (σ:List Im):List SV→List SV→Prop
 | [],[]=>True
 |a::l,b::r=>ZuO σ a b∧Zk3 σ l r
 |_,_=>False
def ZuD (σ:List Im):SV→SV→Prop
 | .func f a c, .func f' a' c'=>f'=f∧Zk3 σ a a'∧Zk3 σ c c'
 | .agg cs, .agg cs'=>Zk3 σ cs cs'
 | .tup cs, .tup cs'=>Zk3 σ cs cs'
 |a,b=>ZuO σ a b
def Zql (σ:List Im) (tm:TM):TM→Prop
 | []=>True
 |(i,V')::r=>match Zcp i tm with
  |some V=>ZuD σ V V'∧Zql σ tm r
  |none=>False
def ZuX (σ:List Im) (hp:List SM):Im→SM→Prop
 | .is id, .row t' l' m'=>match nth hp id with
  |some (.row t l m)=>Zuu t t' l l'∧(m'=true→m=true)
  |_=>False
 | .nil, .row _ l' _=>l'=[]
 | .is id, .cell cs' m'=>match nth hp id with
  |some (.cell cs m)=>Zk3 σ cs cs'∧(m'=true→m=true)
  |_=>False
 |_, .dead=>True
 |_,_=>False
def ZqR (σ:List Im) (hp:List SM):List Im→List SM→Prop
 |_,[]=>True
 | [],_=>False
 |s::ss,m::ms=>ZuX σ hp s m∧ZqR σ hp ss ms
def Zgb:List Im→Bool
 | []=>true
 | .nil::r=>Zgb r
 | .is i::r=>(r.all fun x=>match x with| .is j=> !Nat.beq i j| .nil=>true)&&Zgb r
def ZmK:Nat→List Im→Bool
 |0,_=>true
 |F+1,l=>match nth l F with
  |some (.is i)=>Nat.beq i F&&ZmK F l
  |_=>false
def Zun (j:Nat):SV→SV→Option Im
 |a, .ref j' _ _ _=>match Nat.beq j' j with
  |true=>match a with
   | .ref id _ _ _=>some (.is id)
   | .nils=>some .nil
   |_=>none
  |false=>none
 |a, .ptr j' _ _=>match Nat.beq j' j with
  |true=>match a with
   | .ptr id _ _=>some (.is id)
   |_=>none
  |false=>none
 |_,_=>none
def ZmJ (j:Nat):List SV→List SV→Option Im
 |a::l,b::r=>match Zun j a b with
  |some x=>some x
  |none=>ZmJ j l r
 |_,_=>none
def Zvi (j:Nat):SV→SV→Option Im
 | .agg cs, .agg cs'=>ZmJ j cs cs'
 | .func _ a c, .func _ a' c'=>ZmJ j (a++c) (a'++c')
 |a,b=>Zun j a b
def Zqs (j:Nat) (tm:TM):TM→Option Im
 | []=>none
 |(i,V')::r=>match Zcp i tm with
  |some V=>match Zvi j V V' with
   |some x=>some x
   |none=>Zqs j tm r
  |none=>Zqs j tm r
def ZpP (j:Nat) (hp:List SM) (σ:Nat→Option Im):Nat→List SM→Option Im
 |_,[]=>none
 |n, .cell cs' _::r=>match σ n with
  |some (.is id)=>match nth hp id with
   |some (.cell cs _)=>match ZmJ j cs cs' with
    |some x=>some x
    |none=>ZpP j hp σ (n+1) r
   |_=>ZpP j hp σ (n+1) r
  |_=>ZpP j hp σ (n+1) r
 |n,_::r=>ZpP j hp σ (n+1) r
def ZuK (tm tm':TM) (hp hp':List SM):Nat→List SM→List Im
 |_,[]=> []
 |j,m::r=>(match m with
  | .dead=> .nil
  |_=>match Zqs j tm tm' with
   |some s=>s
   |none=>match ZpP j hp (fun n=>Zqs n tm tm') 0 hp' with
    |some s=>s
    |none=> .nil)::ZuK tm tm' hp hp' (j+1) r
structure Ent (F:Nat) (tm:TM) (hp:List SM) (tm':TM) (hp':List SM):Prop where
 out: ∀φ st,F≤φ.length→SRep φ tm hp st→ ∃φ',Fr F φ φ'∧SRep φ' tm' hp' st
end
end Go.Tx
