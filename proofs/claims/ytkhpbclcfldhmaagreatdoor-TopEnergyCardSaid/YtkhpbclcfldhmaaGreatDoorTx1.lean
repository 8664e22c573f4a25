/-
 A program logic over the evaluator: typed values, what code asks of a state (definitions alone).
-/
import Derived.Test.YtkhpbclcfldhmaaGreatDoorAmC
set_option linter.constructorNameAsVariable false
set_option linter.unusedSimpArgs false
set_option linter.unusedVariables false
namespace Go.Tx
open Go.Am
inductive AV where
 |nil
 |i (t:TypeId) (k:IntKind) (n:Int)
 |s (t:TypeId) (x:List UInt8)
def AV.pv:AV→PV
 | .nil=> .nili
 | .i t k n=> .ifc t (.i k n)
 | .s t x=> .ifc t (.s ⟨List.toArray x⟩)
inductive CT where
 |i (k:IntKind)|b|s|l (e:CT)|p (a c:CT)|any
 deriving DecidableEq
abbrev CT.D:CT→Type
 | .i _=>Int
 | .b=>Bool
 | .s=>List UInt8
 | .l e=>List e.D
 | .p a c=>a.D×c.D
 | .any=>AV
def CT.w:CT→Nat
 | .p a c=>a.w+c.w
 |_=>1
def CT.z:(t:CT)→t.D
 | .i _=>(0:Int)
 | .b=>false
 | .s=>([]:List UInt8)
 | .l e=>([]:List e.D)
 | .p a c=>(a.z,c.z)
 | .any=>AV.nil
def All2 {α β:Type} (R:α→β→Prop):List α→List β→Prop
 | [],[]=>True
 |a::as,b::bs=>R a b∧All2 R as bs
 |_,_=>False
def RR:(t:CT)→t.D→List PV→Prop
 | .i k,x,cs=>cs=[.int k x]
 | .b,x,cs=>cs=[.bool x]
 | .s,x,cs=>cs=[.str ⟨List.toArray x⟩]
 | .l e,xs,cs=>(cs=[.nils]∧xs=([]:List e.D))∨ ∃es,cs=[.lst es]∧All2 (RR e) xs es
 | .p a c,x,cs=> ∃u v,cs=u++v∧RR a x.1 u∧RR c x.2 v
 | .any,x,cs=>cs=[AV.pv x]
inductive SV where
 |v (t:CT) (x:t.D)
 |nilp|nils|nilf|nili|nilmp
 |ref (id i n:Nat) (m:Option Nat)
 |ptr (id i r:Nat)
 |box (t:CT) (x:t.D) (r:Nat)
 |func (f:FuncId) (first caps:List SV)
 |agg (cs:List SV)
 |tup (vs:List SV)
 |mp (id:Nat)
abbrev Ph:=List (Option Nat)
mutual
def RV (φ:Ph):SV→PV→Prop
 | .v t x,q=>RR t x [q]
 | .nilp,q=>q= .nilp
 | .nils,q=>q= .nils
 | .nilf,q=>q= .nilf
 | .nili,q=>q= .nili
 | .nilmp,q=>q= .nilm
 | .ref id i n m,q=>(∃a,φ[id]? =some (some a)∧q= .ref a i n (m.getD n))∨(φ[id]? =some none∧q= .nils∧i=0∧n=0∧m.getD n=0)
 | .ptr id i r,q=> ∃a,φ[id]? =some (some a)∧q= .ptr a i r
 | .box t x r,q=> ∃cs,q= .box cs r∧RR t x cs
 | .func f a c,q=> ∃a' c',q= .func f a' c'∧RL φ a a'∧RL φ c c'
 | .agg cs,q=> ∃cs',q= .agg cs'∧RL φ cs cs'
 | .tup vs,q=> ∃vs',q= .tup vs'∧RL φ vs vs'
 | .mp id,q=> ∃a,φ[id]? =some (some a)∧q= .map a
def RL (φ:Ph):List SV→List PV→Prop
 | [],qs=>qs=[]
 |v::vs,qs=> ∃q r,qs=q::r∧RV φ v q∧RL φ vs r
end
inductive SM where
 |row (t:CT) (l:List t.D) (m:Bool)
 |cell (cs:List SV) (m:Bool)
 |many (ct:CT) (els:List SV) (m:Bool)
 |set (ks:List (List UInt8))
 |dead
def live:SM→Bool
 | .dead=>false
 |_=>true
def RM (φ:Ph) (L:Nat→Option Mem) (o:Option Nat):SM→Prop
 | .row t l m=>match o with
  |some a=> ∃es m',L a=some (.row es t.w m')∧All2 (RR t) l es∧(m=true→m'=true)
  |none=>l=[]
 | .cell cs m=> ∃a cs' m',o=some a∧L a=some (.row [cs'] cs'.length m')∧RL φ cs cs'∧(m=true→m'=true)
 | .many _ els m=>match o with
  |some a=> ∃es m',L a=some (.row es 1 m')∧All2 (fun V c=> ∃q,c=[q]∧RV φ V q) els es∧(m=true→m'=true)
  |none=>els=[]
 | .set ks=> ∃a es,o=some a∧L a=some (.map es)∧All2 (fun(k:List UInt8) (e:PV×PV)=>e=(.str ⟨List.toArray k⟩, .bool true)) ks es
 | .dead=>True
structure RH (φ:Ph) (hp:List SM) (L:Nat→Option Mem):Prop where
 len:φ.length=hp.length
 row: ∀ (id:Nat) (sm:SM) (o:Option Nat),hp[id]? =some sm→φ[id]? =some o→RM φ L o sm
 inj: ∀ (id id':Nat) (sm sm':SM) (a:Nat),id≠id'→hp[id]? =some sm→hp[id']? =some sm'→live sm=true→live sm'=true→φ[id]? =some (some a)→φ[id']? =some (some a)→False
abbrev TM:=List (Nat×SV)
def ZcR (i:Nat):TM→Option SV
 | []=>none
 |p::r=>bif Nat.beq i p.1 then some p.2 else ZcR i r
structure SRep (φ:Ph) (tm:TM) (hp:List SM) (st:St):Prop where
 tm: ∀i V,ZcR i tm=some V→ ∃q,get st.tm i=some q∧RV φ V q
 hp:RH φ hp (fun a=>st.hp[a]?)
def Le (φ φ':Ph):Prop:= ∀ (id:Nat) (o:Option Nat),φ[id]? =some o→φ'[id]? =some o
def Fr (F:Nat) (φ φ':Ph):Prop:= ∀id,id<F→φ'[id]? =φ[id]?
inductive TK where
 |int (k:IntKind)|bool|str|slice (e:TypeId)|arr (n:Nat) (e:TypeId)|struct (fs:List (Nat×TypeId×Nat))|ptr|func|smap|any|other
structure TI where
 k:TK
 sz:Nat
 by_:Nat
 zero:List SV
 ct:Option CT
def nth {α:Type}:List α→Nat→Option α
 | [],_=>none
 |a::_,0=>some a
 |_::l,n+1=>nth l n
def keq (a b:IntKind):Bool:=Nat.beq a.ctorIdx b.ctorIdx
def ceq:CT→CT→Bool
 | .i a, .i b=>keq a b
 | .b, .b=>true
 | .s, .s=>true
 | .l a, .l b=>ceq a b
 | .p a c, .p b d=>ceq a b&&ceq c d
 | .any, .any=>true
 |_,_=>false
def ZcF:(t:CT)→t.D→List SV
 | .p a c,x=>ZcF a x.1++ZcF c x.2
 | .i k,x=> [.v (.i k) x]
 | .b,x=> [.v .b x]
 | .s,x=> [.v .s x]
 | .l e,x=> [.v (.l e) x]
 | .any,x=> [.v .any x]
theorem Zfa {a b:IntKind} (h:keq a b=true):a=b:=by
 revert h;cases a<;>cases b<;>decide
theorem Ziu: ∀ {e e':CT},ceq e e'=true→e=e':=by
 intro e
 induction e with
 |i k=>intro e' h;cases e'<;>simp[ceq]at h;rw[Zfa h]
 |b=>intro e' h;cases e'<;>simp[ceq]at h;rfl
 |s=>intro e' h;cases e'<;>simp[ceq]at h;rfl
 |l a ih=>intro e' h;cases e'<;>simp[ceq]at h;rw[ih h]
 |p a c iha ihc=>intro e' h;cases e'<;>simp[ceq]at h;rw[iha h.1,ihc h.2]
 |any=>intro e' h;cases e'<;>simp[ceq]at h;rfl
def Zgz:(e e':CT)→ceq e e'=true→List e.D→List e'.D:=fun e e' h xs=>cast (by rw[Ziu h]) xs
def ZbT:(t:CT)→List SV→Option t.D
 | .p a c,cs=>match ZbT a (cs.take a.w)with
  |some x=>match ZbT c (cs.drop a.w)with
   |some y=>some (x,y)
   |none=>none
  |none=>none
 | .i k,cs=>match cs with
  | [.v (.i k') y]=>bif keq k k' then some y else none
  |_=>none
 | .b,cs=>match cs with
  | [.v .b y]=>some y
  |_=>none
 | .s,cs=>match cs with
  | [.v .s y]=>some y
  |_=>none
 | .l e,cs=>match cs with
  | [.v (.l e') y]=>if h:ceq e' e=true then some (Zgz e' e h y)else none
  | [.nils]=>some ([]:List e.D)
  |_=>none
 | .any,cs=>match cs with
  | [.v .any y]=>some y
  | [.nili]=>some AV.nil
  |_=>none
def Zlc:Value→Option SV
 | .bool b=>some (.v .b b)
 | .int k n=>some (.v (.i k) n)
 | .string s=>some (.v .s s.data.toList)
 | .pointer none=>some .nilp
 | .slice none 0 0=>some .nils
 | .nilFunc=>some .nilf
 | .nilIface=>some .nili
 | .map none=>some .nilmp
 |_=>none
def ZhO:List Value→Option (List SV)
 | []=>some []
 |v::r=>match Zlc v with
  |some x=>match ZhO r with
   |some y=>some (x::y)
   |none=>none
  |none=>none
def Zr6:Value→Option SV
 | .agg cs=>match ZhO cs.toList with
  |some l=>some (.agg l)
  |none=>none
 |v=>Zlc v
def evS (tm:TM):Operand→Option SV
 | .tmp t=>ZcR t tm
 | .const v=>Zr6 v
 | .func f=>some (.func f [] [])
 | .global _=>none
def evL (tm:TM):List Operand→Option (List SV)
 | []=>some []
 |x::r=>match evS tm x with
  |some v=>match evL tm r with
   |some l=>some (v::l)
   |none=>none
  |none=>none
def Zba:SV→List SV
 | .agg cs=>cs
 |v=> [v]
def Zbr:SV→Bool
 | .tup _=>false
 |_=>true
def spl {α:Type} (l:List α) (off:Nat) (cs:List α):List α:=l.take off++(cs++l.drop (off+cs.length))
def sub {α:Type} (l:List α) (i n:Nat):List α:=(l.drop i).take n
section
variable (P : Program) (h : Hints)
structure PureOK (f:FuncId) (Vs:List SV) (Q:SV→Prop):Prop where
 out: ∀qs,RL [] Vs qs→ ∃q V,ZbR h (lim P h) f qs=some q∧RV [] V q∧Q V
structure ImpOK (f:FuncId) (Vs:List SV) (Q:SV→List SM→Bool→Prop):Prop where
 out: ∀qs,RL [] Vs qs→ ∀base,∃v rows sf φ V hp sf',Zdt (lim P h) f qs base=some (v,rows,sf)∧RV φ V v∧RH φ hp (fun a=>if base≤a then rows[a-base]? else none)∧(sf'=true→sf=true)∧Q V hp sf'
structure OpenOK (f:FuncId) (Vs:List SV) (hp:List SM) (Q:SV→List SM→Prop):Prop where
 out: ∀φ H qs,RH φ hp (fun a=>H[a]?)→RL φ Vs qs→ ∃v H' φ' V hp',(lim P h).rn f qs H=some (v,H')∧Le φ φ'∧RH φ' hp' (fun a=>H'[a]?)∧RV φ' V v∧Q V hp'
structure LoopOK (F:Nat) (c:Cx) (b:Code) (tm:TM) (hp:List SM) (Q:Ex→TM→List SM→Prop):Prop where
 out: ∀φ st,F≤φ.length→SRep φ tm hp st→ ∃e st' φ' tm' hp',(lim P h).ex c (.loop b) st=some (e,st')∧Fr F φ φ'∧SRep φ' tm' hp' st'∧Q e tm' hp'
end
def ZhD (f:SV→(SV→Prop)→Prop):List SV→(List SV→Prop)→Prop
 | [],k=>k []
 |v::r,k=>f v fun v'=>ZhD f r fun r'=>k (v'::r')
def Zxc (ct:CT):List SV→Option (List ct.D)
 | []=>some []
 |V::r=>match ZbT ct [V]with
  |some x=>match Zxc ct r with
   |some xs=>some (x::xs)
   |none=>none
  |none=>none
def Zla (hp:List SM):Nat→SV→(SV→Prop)→Prop
 |0,_,_=>False
 |1,_,_=>False
 |n+2,V,k=>match V with
  | .ref id i m _=>match nth hp id with
   |some (.row t l _)=>i+m≤l.length∧k (.v (.l t) (sub l i m))
   |some (.many ct els _)=>i+m≤els.length∧ZhD (Zla hp (n+1)) (sub els i m) fun cs=>match Zxc ct cs with
    |some xs=>k (.v (.l ct) xs)
    |none=>False
   |some (.cell cs _)=>(i=0∧m=1)∧ZhD (Zla hp (n+1)) cs fun cs'=> ∃ (ct:CT) (x:ct.D),ZbT ct cs'=some x∧k (.v (.l ct) [x])
   |_=>False
  | .ptr id i r=>match nth hp id with
   |some (.row t l _)=> ∃x,l[i]? =some x∧k (.box t x r)
   |_=>False
  | .func f a c=>ZhD (Zla hp (n+1)) a fun a'=>ZhD (Zla hp (n+1)) c fun c'=>k (.func f a' c')
  | .agg cs=>ZhD (Zla hp (n+1)) cs fun cs'=>k (.agg cs')
  | .tup vs=>ZhD (Zla hp (n+1)) vs fun vs'=>k (.tup vs')
  | .mp _=>False
  |V=>k V
def ZyB (hp:List SM):List SV→(List SV→Prop)→Prop:=ZhD (Zla hp 40)
mutual
def ZdN:SV→List Nat
 | .ref id _ _ _=> [id]
 | .ptr id _ _=> [id]
 | .func _ a c=>rchL a++rchL c
 | .agg cs=>rchL cs
 | .tup vs=>rchL vs
 | .mp id=> [id]
 |_=> []
def rchL:List SV→List Nat
 | []=> []
 |v::r=>ZdN v++rchL r
end
def ZlZ (hp:List SM):Nat→SV→List Nat
 |0,_=> []
 |n+1,V=>match V with
  | .ref id i m _=>id::(match nth hp id with
   |some (.many _ els _)=>(sub els i m).flatMap (ZlZ hp n)
   |some (.cell cs _)=>cs.flatMap (ZlZ hp n)
   |_=> [])
  | .ptr id _ _=> [id]
  | .func _ a c=>a.flatMap (ZlZ hp n)++c.flatMap (ZlZ hp n)
  | .agg cs=>cs.flatMap (ZlZ hp n)
  | .tup vs=>vs.flatMap (ZlZ hp n)
  | .mp id=> [id]
  |_=> []
def Zqk (hp:List SM) (l:List SV):List Nat:=l.flatMap (ZlZ hp 40)
def frz1 (hp:List SM) (id:Nat):List SM:=match nth hp id with
 |some (.row t l _)=>hp.set id (.row t l false)
 |some (.cell cs _)=>hp.set id (.cell cs false)
 |some (.many ct els _)=>hp.set id (.many ct els false)
 |_=>hp
def frzT (hp:List SM):List Nat→List SM
 | []=>hp
 |i::r=>frzT (frz1 hp i) r
def Zin:SV→Bool
 | .v (.i _) _| .v .b _| .v .s _| .v .any _| .nilp| .nils| .nilf| .nili| .nilmp=>true
 |_=>false
def Zvp:SV→Bool
 | .tup vs=>vs.all Zin
 | .agg cs=>cs.all Zin
 |v=>Zin v
mutual
def shS (b:Nat):SV→SV
 | .ref id i n m=> .ref (b+id) i n m
 | .ptr id i r=> .ptr (b+id) i r
 | .func f a c=> .func f (shL b a) (shL b c)
 | .agg cs=> .agg (shL b cs)
 | .tup vs=> .tup (shL b vs)
 | .v t x=> .v t x
 | .nilp=> .nilp
 | .nils=> .nils
 | .nilf=> .nilf
 | .nili=> .nili
 | .nilmp=> .nilmp
 | .box t x r=> .box t x r
 | .mp id=> .mp (b+id)
def shL (b:Nat):List SV→List SV
 | []=> []
 |v::r=>shS b v::shL b r
end
def shH (b:Nat):SM→SM
 | .row t l m=> .row t l m
 | .cell cs m=> .cell (shL b cs) m
 | .many ct els m=> .many ct (shL b els) m
 | .set ks=> .set ks
 | .dead=> .dead
def Zvy (b:Nat):List SM→List SM
 | []=> []
 |m::r=>shH b m::Zvy b r
section
variable (P : Program) (h : Hints) (T : TypeId → TI)
def Zy6 (op:BinOp) (k1:IntKind) (a:Int) (k2:IntKind) (b:Int) (k:SV→Prop):Prop:=
 match op with
 | .shl=>0≤b∧k (.v (.i k1) (k1.wrap (a*2^(min b.toNat k1.bits))))
 | .shr=>0≤b∧k (.v (.i k1) (a.fdiv (2^(min b.toNat k1.bits))))
 |op=>match keq k1 k2 with
  |false=>False
  |true=>match op with
   | .add=>k (.v (.i k1) (k1.wrap (a+b)))
   | .sub=>k (.v (.i k1) (k1.wrap (a-b)))
   | .mul=>k (.v (.i k1) (k1.wrap (a*b)))
   | .quo=>b≠0∧k (.v (.i k1) (k1.wrap (a.tdiv b)))
   | .rem=>b≠0∧k (.v (.i k1) (a.tmod b))
   | .and=>k (.v (.i k1) (k1.wrap (BitVec.ofInt k1.bits a&&&BitVec.ofInt k1.bits b).toNat))
   | .or=>k (.v (.i k1) (k1.wrap (BitVec.ofInt k1.bits a|||BitVec.ofInt k1.bits b).toNat))
   | .xor=>k (.v (.i k1) (k1.wrap (BitVec.ofInt k1.bits a^^^BitVec.ofInt k1.bits b).toNat))
   | .andNot=>k (.v (.i k1) (k1.wrap (BitVec.ofInt k1.bits a&&& ~~~ (BitVec.ofInt k1.bits b)).toNat))
   | .eql=>k (.v .b (decide (a=b)))
   | .neq=>k (.v .b (!decide (a=b)))
   | .lss=>k (.v .b (decide (a<b)))
   | .leq=>k (.v .b (decide (a≤b)))
   | .gtr=>k (.v .b (decide (b<a)))
   | .geq=>k (.v .b (decide (b≤a)))
   |_=>False
def Zzk (op:BinOp) (a b:List UInt8) (k:SV→Prop):Prop:=
 match op with
 | .add=>a.length+b.length≤9223372036854775807∧k (.v .s (a++b))
 | .eql=>k (.v .b (a==b))
 | .neq=>k (.v .b (!(a==b)))
 | .lss=>k (.v .b (Op.bytesLess a b))
 | .leq=>k (.v .b (Op.bytesLess a b||a==b))
 | .gtr=>k (.v .b (!(Op.bytesLess a b||a==b)))
 | .geq=>k (.v .b (!Op.bytesLess a b))
 |_=>False
def eqB (op:BinOp) (r:Bool) (k:SV→Prop):Prop:=
 match op with
 | .eql=>k (.v .b r)
 | .neq=>k (.v .b (!r))
 |_=>False
def ZyY (op:BinOp) (t:TypeId) (x y:SV) (k:SV→Prop):Prop:=
 match x,y with
 | .v (.i k1) a, .v (.i k2) b=>Zy6 op k1 a k2 b k
 | .v .s a, .v .s b=>Zzk op a b k
 | .v .b a, .v .b b=>match(T t).k with
  | .bool=>eqB op (a==b) k
  |_=>False
 | .nilp, .nilp=>match(T t).k with
  | .ptr=>eqB op true k
  |_=>False
 | .ptr _ _ _, .nilp=>match(T t).k with
  | .ptr=>eqB op false k
  |_=>False
 | .box _ _ _, .nilp=>match(T t).k with
  | .ptr=>eqB op false k
  |_=>False
 | .nils, .nils=>match(T t).k with
  | .slice _=>eqB op true k
  |_=>False
 | .v (.l _) xs, .nils=>match(T t).k with
  | .slice _=>(xs=[]→eqB op true k)∧eqB op false k
  |_=>False
 | .ref _ _ n _, .nils=>match(T t).k with
  | .slice _=>(n=0→eqB op true k)∧eqB op false k
  |_=>False
 |_,_=>False
def unT (op:UnOp) (x:SV) (k:SV→Prop):Prop:=
 match op,x with
 | .neg, .v (.i k1) n=>k (.v (.i k1) (k1.wrap (0-n)))
 | .not, .v .b b=>k (.v .b (!b))
 | .xor, .v (.i k1) n=>k (.v (.i k1) (k1.wrap (BitVec.ofInt k1.bits (if k1.signed then-1 else k1.max)^^^BitVec.ofInt k1.bits n).toNat))
 |_,_=>False
def Zdj (s:List UInt8):List Int:=s.map fun b=>(b.toNat:Int)
def Zsw (l:List Int):List UInt8:=l.map fun n=>UInt8.ofNat n.toNat
def Zwy (s d:TypeId) (hp:List SM) (x:SV) (k:SV→Prop):Prop:=
 match(T s).k,(T d).k,x with
 | .other,_,_=>False
 |_, .int k1, .v (.i _) n=>k (.v (.i k1) (k1.wrap n))
 | .int _, .str, .v (.i _) n=>(0≤n∧n<128)∧k (.v .s [UInt8.ofNat n.toNat])
 |_, .str, .v .s a=>k (.v .s a)
 | .str, .slice e, .v .s a=>match(T e).k with
  | .int .u8=>k (.v (.l (.i .u8)) (Zdj a))
  |_=>False
 | .slice e, .str, .v (.l (.i .u8)) a=>match(T e).k with
  | .int .u8=>k (.v .s (Zsw a))
  |_=>False
 | .slice e, .str, .ref id i n _=>match(T e).k with
  | .int .u8=>match nth hp id with
   |some (.row (.i .u8) l _)=>i+n≤l.length∧k (.v .s (Zsw (sub l i n)))
   |_=>False
  |_=>False
 |_,_,_=>False
def ZgA (i:TI) (cs:List SV) (off:Nat):Option SV:=
 match i.k with
 | .struct _| .arr _ _=>bif Nat.ble (off+i.sz) cs.length then some (.agg ((cs.drop off).take i.sz))else none
 | .other=>none
 |_=>nth cs off
def Zme (t:TypeId) (hp:List SM) (x:SV) (k:SV→Prop):Prop:=
 match x with
 | .ptr id i r=>match nth hp id with
  |some (.row ct l _)=> ∃x,l[i]? =some x∧match ZgA (T t) (ZcF ct x) r with
   |some V=>k V
   |none=>False
  |some (.cell cs _)=>i=0∧match ZgA (T t) cs r with
   |some V=>k V
   |none=>False
  |some (.many _ els _)=> ∃V,els[i]? =some V∧match ZgA (T t) [V] r with
   |some V=>k V
   |none=>False
  |_=>False
 | .box ct x r=>match ZgA (T t) (ZcF ct x) r with
  |some V=>k V
  |none=>False
 |_=>False
def Zro:SV→Bool
 | .agg _| .tup _=>false
 |_=>true
def ZiY (t:TypeId) (hp:List SM) (a x:SV) (k:SV→List SM→Prop):Prop:=
 match a with
 | .ptr id i r=>match Zbr x&&Nat.beq (Zba x).length (T t).sz with
  |true=>match nth hp id with
   |some (.row ct l true)=> ∃y,l[i]? =some y∧match(T t).k,Nat.ble (r+(T t).sz) ct.w,ZbT ct (spl (ZcF ct y) r (Zba x))with
    | .other,_,_=>False
    |_,true,some z=>k (.tup []) (hp.set id (.row ct (l.set i z) true))
    |_,_,_=>False
   |some (.cell cs true)=>i=0∧match(T t).k,Nat.ble (r+(T t).sz) cs.length with
    | .other,_=>False
    |_,true=>k (.tup []) (hp.set id (.cell (spl cs r (Zba x)) true))
    |_,_=>False
   |some (.many ct els true)=>i<els.length∧match(T t).k,Nat.beq r 0&&Zro x with
    | .other,_=>False
    |_,true=>k (.tup []) (hp.set id (.many ct (els.set i x) true))
    |_,_=>False
   |_=>False
  |false=>False
 |_=>False
def ixT (z:Nat) (hp:List SM) (x:SV) (j:Int) (k:SV→Prop):Prop:=
 match x with
 | .v (.l ct) xs=>match Nat.beq ct.w z with
  |true=> ∃y,0≤j∧xs[j.toNat]? =some y∧k (.box ct y 0)
  |false=>False
 | .ref id i n _=>match nth hp id with
  |some (.row ct _ _)=>match Nat.beq ct.w z with
   |true=>(0≤j∧j<n)∧k (.ptr id (i+j.toNat) 0)
   |false=>False
  |some (.cell cs _)=>match Nat.beq cs.length z with
   |true=>(0≤j∧j<n)∧k (.ptr id (i+j.toNat) 0)
   |false=>False
  |some (.many _ _ _)=>match Nat.beq 1 z with
   |true=>(0≤j∧j<n)∧k (.ptr id (i+j.toNat) 0)
   |false=>False
  |_=>False
 |_=>False
def Ze0 (t:TypeId) (hp:List SM) (x ix:SV) (k:SV→Prop):Prop:=
 match ix with
 | .v (.i _) j=>match(T t).k with
  | .slice e=>match(T e).k with
   | .other=>False
   |_=>ixT (T e).sz hp x j k
  | .arr n e=>match(T e).k with
   | .other=>False
   |_=>match x with
    | .ptr id i r=>(0≤j∧j<n)∧k (.ptr id i (r+j.toNat*(T e).sz))
    | .box ct y r=>(0≤j∧j<n)∧k (.box ct y (r+j.toNat*(T e).sz))
    |_=>False
  |_=>False
 |_=>False
def ZqJ (t:TypeId) (x ix:SV) (k:SV→Prop):Prop:=
 match ix with
 | .v (.i _) j=>match(T t).k,x with
  | .str, .v .s s=> ∃b,0≤j∧s[j.toNat]? =some b∧k (.v (.i .u8) (b.toNat:Int))
  | .arr n e, .agg cs=>(0≤j∧j<n)∧match(T e).k,ZgA (T e) cs (j.toNat*(T e).sz)with
   | .other,_=>False
   |_,some V=>k V
   |_,none=>False
  |_,_=>False
 |_=>False
def Zg3 (s:TypeId) (x:SV) (f:Nat) (k:SV→Prop):Prop:=
 match(T s).k with
 | .struct fs=>match nth fs f with
  |some (off,_,n+1)=>match x with
   | .ptr id i r=>k (.ptr id i (r+off))
   | .box ct y r=>k (.box ct y (r+off))
   |_=>False
  |_=>False
 |_=>False
def ZsW (s:TypeId) (x:SV) (f:Nat) (k:SV→Prop):Prop:=
 match(T s).k,x with
 | .struct fs, .agg cs=>match nth fs f with
  |some (off,ty,_)=>match ZgA (T ty) cs off with
   |some V=>k V
   |none=>False
  |none=>False
 |_,_=>False
def Zy7 (t:TypeId) (x:SV) (k:SV→Prop):Prop:=
 match(T t).k,x with
 | .str, .v .s s=>k (.v (.i .i64) (s.length:Int))
 | .slice _, .v (.l _) xs=>k (.v (.i .i64) (xs.length:Int))
 | .slice _, .nils=>k (.v (.i .i64) (0:Int))
 | .slice _, .ref _ _ n _=>k (.v (.i .i64) (n:Int))
 | .arr n _,_=>k (.v (.i .i64) (n:Int))
 |_,_=>False
def mmT (mx:Bool) (x y:SV) (k:SV→Prop):Prop:=
 match x,y with
 | .v (.i k1) a, .v (.i k2) b=>match keq k1 k2 with
  |true=>k (.v (.i k1) (match mx with|true=>(if b>a then b else a)|false=>(if b<a then b else a)))
  |false=>False
 |_,_=>False
def Zrl (mx:Bool):List SV→SV→(SV→Prop)→Prop
 | [],a,k=>k a
 |b::r,a,k=>mmT mx a b fun c=>Zrl mx r c k
def Ztt (fs:List (Nat×TypeId×Nat)):List SV→List (Nat×SV)→Option (List SV)
 |cs,[]=>some cs
 |cs,(i,V)::r=>match nth fs i with
  |some (off,_,n)=>bif Nat.beq (Zba V).length n&&Nat.ble (off+n) cs.length then Ztt fs (spl cs off (Zba V)) r else none
  |none=>none
def ZtC (n:Nat):List SV→List (Nat×SV)→Option (List SV)
 |cs,[]=>some cs
 |cs,(i,V)::r=>bif Nat.beq (Zba V).length n&&Nat.ble (i*n+n) cs.length then ZtC n (spl cs (i*n) (Zba V)) r else none
def Zmk (tm:TM):List (Nat×Operand)→Option (List (Nat×SV))
 | []=>some []
 |(i,x)::r=>match evS tm x with
  |some V=>bif Zbr V then(match Zmk tm r with
   |some l=>some ((i,V)::l)
   |none=>none)else none
  |none=>none
def Zrd (t:TypeId) (ps:List (Nat×SV)) (k:SV→Prop):Prop:=
 match(T t).k with
 | .struct fs=>match Ztt fs (T t).zero ps with
  |some cs=>k (.agg cs)
  |none=>False
 | .arr _ e=>match(T e).k,ZtC (T e).sz (T t).zero ps with
  | .other,_=>False
  |_,some cs=>k (.agg cs)
  |_,none=>False
 |_=>False
def ZuN (ct:CT):List ct.D→List (Nat×SV)→Option (List ct.D)
 |l,[]=>some l
 |l,(i,V)::r=>match ZbT ct (Zba V)with
  |some x=>bif Nat.ble (i+1) l.length then ZuN ct (l.set i x) r else none
  |none=>none
def okN:Nat→List (Nat×SV)→Bool
 |0,[]=>true
 |0,_::_=>false
 |_+1,_=>true
def Zum:Nat→List (Nat×SV)→Option (List SV)
 |_,[]=>some []
 |i,(j,V)::r=>match Nat.beq i j&&Zro V with
  |true=>match Zum (i+1) r with
   |some l=>some (V::l)
   |none=>none
  |false=>none
def Zfn (t:TypeId) (n:Nat) (ps:List (Nat×SV)) (hp:List SM) (k:SV→List SM→Prop):Prop:=
 match(T t).k with
 | .slice e=>match(T e).k,okN n ps,Nat.ble 1 (T e).sz&&Nat.ble (n*(T e).sz) 16777216 with
  | .other,_,_=>False
  |_,true,true=>match(T e).ct with
   |some ct=>match ZuN ct (List.replicate n ct.z) ps with
    |some l=>k (.ref hp.length 0 n none) (hp++ [.row ct l true])
    |none=>match Zum 0 ps,Nat.beq (T e).sz 1,Nat.beq ps.length n with
     |some els,true,true=>k (.ref hp.length 0 n none) (hp++ [.many ct els true])
     |_,_,_=>match n,ps with
      |1,[(0,V)]=>match Nat.beq (Zba V).length (T e).sz with
       |true=>k (.ref hp.length 0 1 none) (hp++ [.cell (Zba V) true])
       |false=>False
      |_,_=>False
   |none=>match n,ps with
    |1,[(0,V)]=>match Nat.beq (Zba V).length (T e).sz with
     |true=>k (.ref hp.length 0 1 none) (hp++ [.cell (Zba V) true])
     |false=>False
    |_,_=>False
  |_,_,_=>False
 |_=>False
def Zzv:Operand→Operand→Bool
 | .tmp a, .tmp b=>Nat.beq a b
 | .const (.int k a), .const (.int k' b)=>keq k k'&&(a==b)
 |_,_=>false
def ZgM (t:TypeId) (lo co:Operand) (tm:TM) (hp:List SM) (k:SV→List SM→Prop):Prop:=
 match evS tm lo,evS tm co with
 |some (.v (.i _) l),some (.v (.i _) c)=>match(T t).k with
  | .slice e=>match(T e).k,(T e).ct,Nat.ble 1 (T e).sz with
   | .other,_,_=>False
   |_,some ct,true=>(0≤l∧l≤c∧(T e).by_*c≤281474976710656∧c<9223372036854775808)∧match Zzv lo co with
    |true=>match(T e).zero with
     | [.nils]=>k (.ref hp.length 0 l.toNat none) (hp++ [.many ct (List.replicate l.toNat .nils) true])
     |_=>k (.ref hp.length 0 l.toNat none) (hp++ [.row ct (List.replicate l.toNat ct.z) true])
    |false=>k (.ref hp.length 0 l.toNat (some c.toNat)) (hp++ [.row ct (List.replicate c.toNat ct.z) true])
   |_,_,_=>False
  |_=>False
 |_,_=>False
def ZuT (tm:TM) (n m:Nat) (lo hi:Option Operand) (k:Nat→Nat→Prop):Prop:=
 match lo,hi with
 |none,none=>k 0 n
 |some x,none=>match evS tm x with
  |some (.v (.i _) l)=>(0≤l∧l≤n)∧k l.toNat n
  |_=>False
 |none,some y=>match evS tm y with
  |some (.v (.i _) u)=>(0≤u∧u≤m)∧k 0 u.toNat
  |_=>False
 |some x,some y=>match evS tm x,evS tm y with
  |some (.v (.i _) l),some (.v (.i _) u)=>(0≤l∧l≤u∧u≤m)∧k l.toNat u.toNat
  |_,_=>False
def Zoq (t:TypeId) (tm:TM) (hp:List SM) (x:SV) (lo hi:Option Operand) (k:SV→Prop):Prop:=
 match(T t).k,x with
 | .str, .v .s s=>ZuT tm s.length s.length lo hi fun l u=>k (.v .s ((s.take u).drop l))
 | .slice e, .v (.l ct) xs=>match(T e).k,Nat.beq ct.w (T e).sz with
  | .other,_=>False
  |_,true=>ZuT tm xs.length xs.length lo hi fun l u=>k (.v (.l ct) ((xs.take u).drop l))
  |_,_=>False
 | .slice e, .ref id i n m=>match(T e).k,nth hp id with
  | .other,_=>False
  |_,some (.row ct _ _)=>match Nat.beq ct.w (T e).sz with
   |true=>match hi,m with
    |none,none=>ZuT tm n n lo hi fun l u=>k (.ref id (i+l) (u-l) none)
    |_,_=>ZuT tm n (m.getD n) lo hi fun l u=>k (.ref id (i+l) (u-l) (some (m.getD n-l)))
   |false=>False
  |_,_=>False
 | .slice e, .nils=>match(T e).k with
  | .other=>False
  |_=>ZuT tm 0 0 lo hi fun _ _=>k .nils
 |_,_=>False
def ZnL (t:TypeId) (tm:TM) (hp:List SM) (x:SV) (lo hi mx:Option Operand) (k:SV→Prop):Prop:=
 match(T t).k,x,lo,hi,mx with
 | .slice e, .ref id i n m,some a,some b,some c=>match(T e).k,nth hp id with
  | .other,_=>False
  |_,some (.row ct _ _)=>match Nat.beq ct.w (T e).sz with
   |true=>match evS tm a,evS tm b,evS tm c with
    |some (.v (.i _) l),some (.v (.i _) u),some (.v (.i _) w)=>(0≤l∧l≤u∧u≤w∧w≤m.getD n)∧k (.ref id (i+l.toNat) (u.toNat-l.toNat) (some (w.toNat-l.toNat)))
    |_,_,_=>False
   |false=>False
  |_,_=>False
 |_,_,_,_,_=>False
def ZtT (ct:CT) (hp:List SM) (x:SV) (k:List ct.D→Prop):Prop:=
 match x with
 | .nils=>k ([]:List ct.D)
 | .v (.l e) xs=>if h:ceq e ct=true then k (Zgz e ct h xs)else False
 | .v .s s=>match ct,k with
  | .i .u8,k=>k (Zdj s)
  |_,_=>False
 | .ref id i n _=>match nth hp id with
  |some (.row e l _)=>if h:ceq e ct=true then i+n≤l.length∧k (Zgz e ct h (sub l i n))else False
  |_=>False
 |_=>False
def ZtS (ct:CT) (by_:Nat) (hp:List SM) (s:SV) (new:List ct.D) (k:SV→List SM→Prop):Prop:=
 match s with
 | .nils=>match new with
  | []=>k .nils hp
  |x::r=>(r.length+1)*by_≤140737488355328∧k (.ref hp.length 0 (r.length+1) none) (hp++ [.row ct (x::r) true])
 | .ref id i n m=>match nth hp id with
  |some (.row e l true)=>if h:ceq e ct=true then i+n≤l.length∧match new with
   | []=>k (.ref id i n m) hp
   |x::r=>match m with
    |none=>(n+(r.length+1))*by_≤140737488355328∧k (.ref hp.length 0 (n+(r.length+1)) none) (hp.set id .dead++ [.row ct (Zgz e ct h (sub l i n)++x::r) true])
    |some c=>(n+(r.length+1)≤c→i+(n+(r.length+1))≤l.length∧k (.ref id i (n+(r.length+1)) (some c)) (hp.set id (.row ct (spl (Zgz e ct h l) (i+n) (x::r)) true)))∧
     (c<n+(r.length+1)→(n+(r.length+1))*by_≤140737488355328∧k (.ref hp.length 0 (n+(r.length+1)) none) (hp.set id .dead++ [.row ct (Zgz e ct h (sub l i n)++x::r) true]))
   else False
  |_=>False
 |_=>False
def Zib (ts:List TypeId) (hp:List SM) (s x:SV) (k:SV→List SM→Prop):Prop:=
 match ts with
 |t::t2::_=>match(T t).k,(T t2).k with
  | .slice _, .int _=>False
  | .slice _, .other=>False
  | .slice e,_=>match(T e).k,(T e).ct,Nat.ble 1 (T e).by_&&Nat.ble 1 (T e).sz with
   | .other,_,_=>False
   |_,some ct,true=>match h.frz t with
    |true=>Zla hp 40 x fun V=>ZtT ct [] V fun new=>ZtS ct (T e).by_ (frzT hp (ZlZ hp 40 x)) s new k
    |false=>ZtT ct hp x fun new=>ZtS ct (T e).by_ hp s new k
   |_,_,_=>False
  |_,_=>False
 |_=>False
def ZvW (ts:List TypeId) (hp:List SM) (d x:SV) (k:SV→List SM→Prop):Prop:=
 match ts with
 |t::_=>match(T t).k with
  | .slice e=>match(T e).k,(T e).ct,Nat.ble 1 (T e).sz with
   | .other,_,_=>False
   |_,some ct,true=>ZtT ct hp x fun new=>match d with
    | .nils=>k (.v (.i .i64) (0:Int)) hp
    | .ref id i n _=>match nth hp id with
     |some (.row e' l true)=>if hc:ceq e' ct=true then i+n≤l.length∧k (.v (.i .i64) ((min new.length n:Nat):Int)) (hp.set id (.row ct (spl (Zgz e' ct hc l) i (new.take n)) true))else False
     |_=>False
    |_=>False
   |_,_,_=>False
  |_=>False
 |_=>False
def ZqV (ts:List TypeId) (hp:List SM) (d:SV) (k:SV→List SM→Prop):Prop:=
 match ts with
 |t::_=>match(T t).k with
  | .slice e=>match(T e).k,(T e).ct,Nat.ble 1 (T e).sz with
   | .other,_,_=>False
   |_,some ct,true=>match d with
    | .nils=>k (.tup []) hp
    | .ref id i n _=>match nth hp id with
     |some (.row e' l true)=>if hc:ceq e' ct=true then i+n≤l.length∧k (.tup []) (hp.set id (.row ct (spl (Zgz e' ct hc l) i (List.replicate n ct.z)) true))else False
     |_=>False
    |_=>False
   |_,_,_=>False
  |_=>False
 |_=>False
def ZeL (f:FuncId) (args:List SV) (hp:List SM) (k:SV→List SM→Prop):Prop:=
 match h.opn f with
 |true=>OpenOK P h f args hp k
 |false=>ZyB hp args fun qs=>match h.imp f with
  |true=>ImpOK P h f qs fun V hn sf=>k (shS hp.length V) ((match sf with|true=>hp|false=>frzT hp (Zqk hp args))++Zvy hp.length hn)
  |false=>PureOK P h f qs fun V=>match h.mem f with
   |true=>k V (frzT hp (Zqk hp args))
   |false=>match Zvp V with
    |true=>k V hp
    |false=>False
def ZmZ (c:Call) (tm:TM) (hp:List SM) (k:SV→List SM→Prop):Prop:=
 match evL tm c.args.toList with
 |none=>False
 |some vs=>match c.callee with
  | .builtin b=>match b,vs with
   | .len,[x]=>match c.argTypes.toList with
    |t::_=>Zy7 T t x fun V=>k V hp
    |_=>False
   | .min,x::r=>Zrl false r x fun V=>k V hp
   | .max,x::r=>Zrl true r x fun V=>k V hp
   | .append,[s,x]=>Zib h T c.argTypes.toList hp s x k
   | .copy,[s,x]=>ZvW T c.argTypes.toList hp s x k
   | .clear,[s]=>ZqV T c.argTypes.toList hp s k
   |_,_=>False
  | .value (.func f)=>ZeL P h f vs hp k
  | .value x=>match evS tm x with
   |some (.func f a d)=>ZeL P h f (a++vs++d) hp k
   |_=>False
  |_=>False
def ZtB (s:List UInt8):List (List UInt8)→List (List UInt8)
 | []=> [s]
 |k::r=>bif s==k then k::r else k::ZtB s r
def ZqG (s:List UInt8):List (List UInt8)→Bool
 | []=>false
 |k::r=>bif s==k then true else ZqG s r
def AV.is (u:TypeId):AV→Option SV
 | .nil=>none
 | .i t k n=>match Nat.beq t u with
  |true=>some (.v (.i k) n)
  |false=>none
 | .s t x=>match Nat.beq t u with
  |true=>some (.v .s x)
  |false=>none
def asT (V:Option SV) (Z:SV) (ok:Bool) (k:SV→Prop):Prop:=
 match V,ok with
 |some V,true=>k (.tup [V, .v .b true])
 |some V,false=>k V
 |none,true=>k (.tup [Z, .v .b false])
 |none,false=>False
def Zm7 (y:AV) (u:TypeId) (ok:Bool) (k:SV→Prop):Prop:=
 match(T u).k with
 | .int k0=>asT (y.is u) (.v (.i k0) (0:Int)) ok k
 | .str=>asT (y.is u) (.v .s []) ok k
 |_=>False
def opT (op:Op) (tm:TM) (hp:List SM) (k:SV→List SM→Prop):Prop:=
 match op with
 | .move x=>match evS tm x with
  |some V=>k V hp
  |none=>False
 | .assign x=>match evS tm x with
  |some V=>k V hp
  |none=>False
 | .pick c a b=>match evS tm c with
  |some (.v .b t)=>(t=true→match evS tm a with|some V=>k V hp|none=>False)∧(t=false→match evS tm b with|some V=>k V hp|none=>False)
  |_=>False
 | .alloc t=>match(T t).k with
  | .other=>False
  |_=>k (.ptr hp.length 0 0) (hp++ [.cell (T t).zero true])
 | .box _ x=>match evS tm x with
  |some V=>match Zbr V with
   |true=>k (.ptr hp.length 0 0) (hp++ [.cell (Zba V) true])
   |false=>False
  |none=>False
 | .build t ps=>match Zmk tm ps.toList with
  |some l=>Zrd T t l fun V=>k V hp
  |none=>False
 | .buildSlice t n ps=>match Zmk tm ps.toList with
  |some l=>Zfn T t n l hp k
  |none=>False
 | .load t a=>match evS tm a with
  |some V=>Zme T t hp V fun V=>k V hp
  |none=>False
 | .nilCheck x=>match evS tm x with
  |some (.ptr id i r)=>k (.ptr id i r) hp
  |some (.box t x r)=>k (.box t x r) hp
  |some (.func f a c)=>k (.func f a c) hp
  |_=>False
 | .binOp op t x y _=>match evS tm x,evS tm y with
  |some a,some b=>ZyY T op t a b fun V=>k V hp
  |_,_=>False
 | .unOp op _ x=>match evS tm x with
  |some a=>unT op a fun V=>k V hp
  |none=>False
 | .convert s d x=>match evS tm x with
  |some a=>Zwy T s d hp a fun V=>k V hp
  |none=>False
 | .makeInterface t x=>match(T t).k,evS tm x with
  | .int _,some (.v (.i k') n)=>k (.v .any (AV.i t k' n)) hp
  | .str,some (.v .s s)=>k (.v .any (AV.s t s)) hp
  |_,_=>False
 | .typeAssert x _ u ok=>match evS tm x with
  |some (.v .any y)=>Zm7 T y u ok fun V=>k V hp
  |_=>False
 | .makeFunc fn first caps=>match fn with
  | .func f=>match evL tm first.toList,evL tm caps.toList with
   |some a,some c=>k (.func f a c) hp
   |_,_=>False
  |_=>False
 | .makeSlice t l c=>ZgM T t l c tm hp k
 | .slice t x lo hi mx=>match mx,evS tm x with
  |none,some V=>Zoq T t tm hp V lo hi fun V=>k V hp
  |some y,some V=>ZnL T t tm hp V lo hi (some y) fun V=>k V hp
  |_,_=>False
 | .fieldAddr s x f=>match evS tm x with
  |some V=>Zg3 T s V f fun V=>k V hp
  |none=>False
 | .field s x f=>match evS tm x with
  |some V=>ZsW T s V f fun V=>k V hp
  |none=>False
 | .indexAddr t x j=>match evS tm x,evS tm j with
  |some V,some J=>Ze0 T t hp V J fun V=>k V hp
  |_,_=>False
 | .index t x j=>match evS tm x,evS tm j with
  |some V,some J=>ZqJ T t V J fun V=>k V hp
  |_,_=>False
 | .extract x i=>match evS tm x with
  |some (.tup vs)=>match nth vs i with
   |some V=>k V hp
   |none=>False
  |_=>False
 | .call c=>ZmZ P h T c tm hp k
 | .store t a x=>match evS tm a,evS tm x with
  |some A,some V=>ZiY T t hp A V k
  |_,_=>False
 | .makeMap t r=>match(T t).k,r with
  | .smap,none=>k (.mp hp.length) (hp++ [.set []])
  |_,_=>False
 | .lookup t x j ok=>match(T t).k,evS tm x,evS tm j,ok with
  | .smap,some (.mp id),some (.v .s s),false=>match nth hp id with
   |some (.set ks)=>k (.v .b (ZqG s ks)) hp
   |_=>False
  |_,_,_,_=>False
 | .mapUpdate t m j x=>match(T t).k,evS tm m,evS tm j,evS tm x with
  | .smap,some (.mp id),some (.v .s s),some (.v .b true)=>match nth hp id with
   |some (.set ks)=>k (.tup []) (hp.set id (.set (ZtB s ks)))
   |_=>False
  |_,_,_,_=>False
 |_=>False
def ZdI (N:Nat) (dst:Option Tmp) (V:SV) (tm:TM) (k:TM→Prop):Prop:=
 match dst with
 |none=>k tm
 |some d=>match Nat.ble (d+1) N with
  |true=>k ((d,V)::tm)
  |false=>False
def wpOps (N:Nat) (ds:List (Option Tmp)):List Oper→TM→List SM→(TM→List SM→Prop)→Prop
 | [],tm,hp,k=>k tm hp
 |o::l,tm,hp,k=>match o.guard with
  |none=>opT P h T o.op tm hp fun V hp'=>ZdI N o.dst V tm fun tm'=>wpOps N ds l tm' hp' k
  |some (j,w)=>match nth ds j with
   |some (some d)=>match ZcR d tm with
    |some (.v .b t)=>(t=w→opT P h T o.op tm hp fun V hp'=>ZdI N o.dst V tm fun tm'=>wpOps N ds l tm' hp' k)∧
     (t= !w→ZdI N o.dst (.tup []) tm fun tm'=>wpOps N ds l tm' hp k)
    |some (.tup [])=>ZdI N o.dst (.tup []) tm fun tm'=>wpOps N ds l tm' hp k
    |_=>False
   |_=>False
def ZjT (hp:List SM) (id:Nat):Bool:=match nth hp id with
 |some m=>live m
 |none=>false
def ZrA (id:Nat):List Nat→Bool
 | []=>false
 |j::r=>match Nat.beq id j with
  |true=>true
  |false=>ZrA id r
def ZiI (hp:List SM):List Nat→Bool
 | []=>true
 |j::r=>ZjT hp j&&ZiI hp r
def Zma:List (Nat×Nat×Bool)→List Nat
 | []=> []
 |(_,id,true)::r=>id::Zma r
 |(_,_,false)::r=>Zma r
def ZyC:List (Nat×Nat×Bool)→List Nat
 | []=> []
 |(_,id,_)::r=>id::ZyC r
def ZyU (tm:TM) (c:Call):Option (Option Nat):=match c.callee with
 | .builtin .append=>match c.args.toList with
  |x::_=>match evS tm x with
   |some .nils=>some none
   |some (.ref id _ _ _)=>some (some id)
   |_=>none
  | []=>none
 |_=>none
noncomputable def ZsR (o:Oper):List (Nat×Nat×Bool)→List (Nat×Nat×Bool)
 | []=> []
 |x::r=>match Zdv o x.1 with
  |true=>ZsR o r
  |false=>x::ZsR o r
noncomputable def Zp1 (o:Oper) (ks:List (Nat×Nat×Bool)):List (Nat×Nat×Bool):=
 match isW h o with
 |true=>ZsR o ks
 |false=>ks
def ZxL:SM→Option Nat
 | .row t _ _=>some t.w
 | .cell cs _=>some cs.length
 | .many _ _ _=>some 1
 | .set _=>none
 | .dead=>none
def ZtJ (hp hp':List SM):List (Nat×Nat×Bool)→Bool
 | []=>true
 |(_,id,_)::r=>match(nth hp id).bind ZxL,(nth hp' id).bind ZxL with
  |some a,some b=>Nat.beq a b&&ZtJ hp hp' r
  |_,_=>false
def ZyW (tm:TM) (c:Call):Bool:=match c.callee with
 | .value (.func _)=>false
 | .value x=>match evS tm x with
  |some (.func f _ _)=> !h.opn f
  |_=>false
 |_=>false
def Zwj (b:Bool) (p:Prop):Prop:=match b with
 |true=>p
 |false=>False
def ZyP (tm:TM) (c:Call):Bool:=match c.callee with
 | .builtin .min=>true
 | .builtin .max=>true
 | .builtin .len=>match evL tm c.args.toList with
  |some [.v (.l _) _]=>true
  |some [.nils]=>true
  |some [.ref _ _ _ _]=>true
  |_=>false
 |_=>false
noncomputable def Za1 (N:Nat) (ls:List Nat):List Oper→Nat→List (Nat×Nat×Bool)→TM→List SM→(TM→List SM→Prop)→Prop
 | [],_,_,tm,hp,k=>k tm hp
 |o::l,i,ks,tm,hp,k=>match has i ls with
  |true=>match o.op with
   | .load t a=>match evS tm a with
    |some (.ptr id _ _)=>opT P h T (.load t a) tm hp fun V hp'=>ZdI N o.dst V tm fun tm'=>Za1 N ls l (i+1) ((i,id,true)::ks) tm' hp' k
    |some (.box _ _ _)=>opT P h T (.load t a) tm hp fun V hp'=>ZdI N o.dst V tm fun tm'=>Za1 N ls l (i+1) ks tm' hp' k
    |_=>False
   | .move x=>opT P h T (.move x) tm hp fun V hp'=>ZdI N o.dst V tm fun tm'=>Za1 N ls l (i+1) ks tm' hp' k
   | .indexAddr t x j=>match evS tm x with
    |some (.ref id _ _ _)=>opT P h T (.indexAddr t x j) tm hp fun V hp'=>ZdI N o.dst V tm fun tm'=>Za1 N ls l (i+1) ((i,id,false)::ks) tm' hp' k
    |some (.v (.l _) _)=>opT P h T (.indexAddr t x j) tm hp fun V hp'=>ZdI N o.dst V tm fun tm'=>Za1 N ls l (i+1) ks tm' hp' k
    |_=>False
   | .binOp bo t x y z=>opT P h T (.binOp bo t x y z) tm hp fun V hp'=>ZdI N o.dst V tm fun tm'=>Za1 N ls l (i+1) ks tm' hp' k
   | .slice t x lo hi mx=>match evS tm x with
    |some (.v (.l _) _)=>opT P h T (.slice t x lo hi mx) tm hp fun V hp'=>ZdI N o.dst V tm fun tm'=>Za1 N ls l (i+1) ks tm' hp' k
    |_=>False
   | .call c=>match ZyP tm c with
    |true=>opT P h T (.call c) tm hp fun V hp'=>ZdI N o.dst V tm fun tm'=>Za1 N ls l (i+1) ks tm' hp' k
    |false=>False
   |_=>False
  |false=>match Zp1 h o ks with
   | []=>opT P h T o.op tm hp fun V hp'=>ZdI N o.dst V tm fun tm'=>Za1 N ls l (i+1) [] tm' hp' k
   |y::ks'=>match isW h o with
    |false=>opT P h T o.op tm hp fun V hp'=>ZdI N o.dst V tm fun tm'=>Za1 N ls l (i+1) (y::ks') tm' hp' k
    |true=>match Zma (y::ks')with
     | []=>opT P h T o.op tm hp fun V hp'=>Zwj (ZtJ hp hp' (y::ks')) (ZdI N o.dst V tm fun tm'=>Za1 N ls l (i+1) (y::ks') tm' hp' k)
     |id0::ids=>match o.op with
      | .store t a x=>match evS tm a with
       |some (.ptr id' j r)=>match ZjT hp id'&&ZiI hp (id0::ids)&& !ZrA id' (id0::ids)with
        |true=>opT P h T (.store t a x) tm hp fun V hp'=>ZdI N o.dst V tm fun tm'=>Za1 N ls l (i+1) (y::ks') tm' hp' k
        |false=>False
       |_=>False
      | .call c=>match ZyW h tm c with
       |true=>opT P h T (.call c) tm hp fun V hp'=>ZdI N o.dst V tm fun tm'=>Za1 N ls l (i+1) (y::ks') tm' hp' k
       |false=>match ZyU tm c with
        |some none=>opT P h T (.call c) tm hp fun V hp'=>ZdI N o.dst V tm fun tm'=>Za1 N ls l (i+1) (y::ks') tm' hp' k
        |some (some id')=>match ZjT hp id'&&ZiI hp (ZyC (y::ks'))&& !ZrA id' (ZyC (y::ks'))with
         |true=>opT P h T (.call c) tm hp fun V hp'=>ZdI N o.dst V tm fun tm'=>Za1 N ls l (i+1) (y::ks') tm' hp' k
         |false=>False
        |none=>False
      |_=>False
def Zxz:List Oper→List (Option Tmp)
 | []=> []
 |o::r=>o.dst::Zxz r
def ZxM (k:Ex→TM→List SM→Prop) (next:TM→List SM→Prop):Ex→TM→List SM→Prop
 | .normal,tm,hp=>next tm hp
 |e,tm,hp=>k e tm hp
def Zvg (id:Nat) (k:Ex→TM→List SM→Prop):Ex→TM→List SM→Prop
 | .exit j,tm,hp=>match Nat.beq j id with
  |true=>k .normal tm hp
  |false=>k (.exit j) tm hp
 |e,tm,hp=>k e tm hp
noncomputable def wpR (N:Nat) (ls:List Nat) (ops:Array Oper) (tm:TM) (hp:List SM) (k:TM→List SM→Prop):Prop:=
 match ls with
 | []=>wpOps P h T N (Zxz ops.toList) ops.toList tm hp k
 |j::ls=>match noG ops.toList with
  |true=>Za1 P h T N (j::ls) ops.toList 0 [] tm hp k
  |false=>False
noncomputable def wp (F:Nat) (c:Cx):Code→TM→List SM→(Ex→TM→List SM→Prop)→Prop
 | .skip,tm,hp,k=>k .normal tm hp
 | .label _,tm,hp,k=>k .normal tm hp
 | .region id ops _,tm,hp,k=>match h.perm c.fid id with
  | []=>wpR P h T c.N (h.light c.fid id) ops tm hp fun tm' hp'=>k .normal tm' hp'
  |i::r=>wpR P h T c.N (h.light c.fid id) (rgo (i::r) ops) tm hp fun tm' hp'=>k .normal tm' hp'
 | .seq a b,tm,hp,k=>wp F c a tm hp (ZxM k fun tm' hp'=>wp F c b tm' hp' k)
 | .cond x a b,tm,hp,k=>match evS tm x with
  |some (.v .b t)=>(t=true→wp F c a tm hp k)∧(t=false→wp F c b tm hp k)
  |_=>False
 | .block id b,tm,hp,k=>match h.keepB c.fid id with
  |none=>wp F c b tm hp (Zvg id k)
  |some _=>False
 | .loop b,tm,hp,k=>LoopOK P h F c b tm hp k
 | .exit id,tm,hp,k=>k (.exit id) tm hp
 | .ret,tm,hp,k=>k .ret tm hp
 |_,_,_,_=>False
def Zw1 (tm:TM) (hp:List SM):List ResultVar→(List SV→Prop)→Prop
 | [],k=>k []
 | .tmp t::r,k=>match ZcR t tm with
  |some V=>Zw1 tm hp r fun l=>k (V::l)
  |none=>False
 | .cell a t::r,k=>match ZcR a tm with
  |some V=>Zme T t hp V fun V=>Zw1 tm hp r fun l=>k (V::l)
  |none=>False
def ZyN:List SV→SV
 | [V]=>V
 |l=> .tup l
def ZcB:Nat→List SV→TM
 |_,[]=> []
 |i,V::r=>(i,V)::ZcB (i+1) r
def Zw0 (rs:List ResultVar) (k:SV→List SM→Prop):Ex→TM→List SM→Prop
 | .exit _,_,_=>False
 |_,tm,hp=>Zw1 T tm hp rs fun l=>k (ZyN l) hp
inductive Im where
 |is (id:Nat)|nil
def Zxj:(t t':CT)→List t.D→List t'.D→Prop
 | .i k, .i k',l,l'=>match keq k k' with
  |true=>l'=l
  |false=>False
 | .b, .b,l,l'=>l'=l
 | .s, .s,l,l'=>l'=l
 |t,t',l,l'=>if h:ceq t t'=true then l'=Zgz t t' h l else False
def ZyF (σ:List Im):SV→SV→Prop
 | .v (.i k) x, .v (.i k') x'=>match keq k k' with
  |true=>x'=x
  |false=>False
 | .v .b x, .v .b x'=>x'=x
 | .v .s x, .v .s x'=>x'=x
 | .v .any x, .v .any x'=>x'=x
 | .v (.l e) x, .v (.l e') x'=>Zxj e e' x x'
 | .nils, .v (.l t) x'=>x'=([]:List t.D)
 | .nils, .nils=>True
 | .nilp, .nilp=>True
 | .nilf, .nilf=>True
 | .nili, .nili=>True
 | .nils, .ref j i' n' m'=>match nth σ j with
  |some .nil=>i'=0∧n'=0∧m'.getD n'=0
  |_=>False
 | .ref id i n m, .ref j i' n' m'=>match nth σ j with
  |some (.is d)=>match Nat.beq d id with
   |true=>i'=i∧n'=n∧m'.getD n'=m.getD n
   |false=>False
  |_=>False
 | .ptr id i r, .ptr j i' r'=>match nth σ j with
  |some (.is d)=>match Nat.beq d id with
   |true=>i'=i∧r'=r
   |false=>False
  |_=>False
 | .box t x r, .box t' x' r'=>Zxj t t' [x] [x']∧r'=r
 |_,_=>False
def Zn0 (σ:List Im):List SV→List SV→Prop
 | [],[]=>True
 |a::l,b::r=>ZyF σ a b∧Zn0 σ l r
 |_,_=>False
def ZyG (σ:List Im):SV→SV→Prop
 | .func f a c, .func f' a' c'=>f'=f∧Zn0 σ a a'∧Zn0 σ c c'
 | .agg cs, .agg cs'=>Zn0 σ cs cs'
 | .tup cs, .tup cs'=>Zn0 σ cs cs'
 |a,b=>ZyF σ a b
def ZtX (σ:List Im) (tm:TM):TM→Prop
 | []=>True
 |(i,V')::r=>match ZcR i tm with
  |some V=>ZyG σ V V'∧ZtX σ tm r
  |none=>False
def Zy0 (σ:List Im) (hp:List SM):Im→SM→Prop
 | .is id, .row t' l' m'=>match nth hp id with
  |some (.row t l m)=>Zxj t t' l l'∧(m'=true→m=true)
  |_=>False
 | .nil, .row _ l' _=>l'=[]
 | .is id, .cell cs' m'=>match nth hp id with
  |some (.cell cs m)=>Zn0 σ cs cs'∧(m'=true→m=true)
  |_=>False
 |_, .dead=>True
 |_,_=>False
def Zug (σ:List Im) (hp:List SM):List Im→List SM→Prop
 |_,[]=>True
 | [],_=>False
 |s::ss,m::ms=>Zy0 σ hp s m∧Zug σ hp ss ms
def Zhb:List Im→Bool
 | []=>true
 | .nil::r=>Zhb r
 | .is i::r=>(r.all fun x=>match x with| .is j=> !Nat.beq i j| .nil=>true)&&Zhb r
def ZoD:Nat→List Im→Bool
 |0,_=>true
 |F+1,l=>match nth l F with
  |some (.is i)=>Nat.beq i F&&ZoD F l
  |_=>false
def Zyu (j:Nat):SV→SV→Option Im
 |a, .ref j' _ _ _=>match Nat.beq j' j with
  |true=>match a with
   | .ref id _ _ _=>some (.is id)
   | .nils=>some .nil
   |_=>none
  |false=>none
 |a, .ptr j' _ _=>match Nat.beq j' j with
  |true=>match a with
   | .ptr id _ _=>some (.is id)
   |_=>none
  |false=>none
 |_,_=>none
def Zn8 (j:Nat):List SV→List SV→Option Im
 |a::l,b::r=>match Zyu j a b with
  |some x=>some x
  |none=>Zn8 j l r
 |_,_=>none
def Zzo (j:Nat):SV→SV→Option Im
 | .agg cs, .agg cs'=>Zn8 j cs cs'
 | .func _ a c, .func _ a' c'=>Zn8 j (a++c) (a'++c')
 |a,b=>Zyu j a b
def ZtH (j:Nat) (tm:TM):TM→Option Im
 | []=>none
 |(i,V')::r=>match ZcR i tm with
  |some V=>match Zzo j V V' with
   |some x=>some x
   |none=>ZtH j tm r
  |none=>ZtH j tm r
def ZsG (j:Nat) (hp:List SM) (σ:Nat→Option Im):Nat→List SM→Option Im
 |_,[]=>none
 |n, .cell cs' _::r=>match σ n with
  |some (.is id)=>match nth hp id with
   |some (.cell cs _)=>match Zn8 j cs cs' with
    |some x=>some x
    |none=>ZsG j hp σ (n+1) r
   |_=>ZsG j hp σ (n+1) r
  |_=>ZsG j hp σ (n+1) r
 |n,_::r=>ZsG j hp σ (n+1) r
def ZyJ (tm tm':TM) (hp hp':List SM):Nat→List SM→List Im
 |_,[]=> []
 |j,m::r=>(match m with
  | .dead=> .nil
  |_=>match ZtH j tm tm' with
   |some s=>s
   |none=>match ZsG j hp (fun n=>ZtH n tm tm') 0 hp' with
    |some s=>s
    |none=> .nil)::ZyJ tm tm' hp hp' (j+1) r
structure Ent (F:Nat) (tm:TM) (hp:List SM) (tm':TM) (hp':List SM):Prop where
 out: ∀φ st,F≤φ.length→SRep φ tm hp st→ ∃φ',Fr F φ φ'∧SRep φ' tm' hp' st
end
end Go.Tx
