/- The evaluator of the model's code on plain values, with its soundness and its walking rules (part 1). -/
import Derived.Test.YtapbiodcncnnfaaGreatDoorAl
import Derived.Calls
import Derived.Below
import Derived.WalkKit
set_option linter.all false
namespace Go.Am
noncomputable section
inductive Sc where
 |b (x:Bool)
 |i (k:IntKind) (n:Int)
 |s (x:ByteArray)
inductive PV where
 |bool (b:Bool)
 |int (k:IntKind) (n:Int)
 |str (s:ByteArray)
 |nilp|nils|nilf|nilm|nili
 |ifc (t:TypeId) (x:Sc)
 |ptr (id i r:Nat)
 |ref (id i n m:Nat)
 |map (id:Nat)
 |lst (es:List (List PV))
 |box (cs:List PV) (r:Nat)
 |func (f:FuncId) (first caps:List PV)
 |agg (cs:List PV)
 |tup (vs:List PV)
 deriving Inhabited
inductive Mem where
 |row (es:List (List PV)) (z:Nat) (m:Bool)
 |map (es:List (PV×PV))
 |dead
 deriving Inhabited
structure St where
 tm:List (Nat×PV)
 hp:List Mem
inductive Ex where
 |normal
 |exit (id:Nat)
 |ret
 deriving DecidableEq
structure Hints where
 ok:FuncId→Bool
 opn:FuncId→Bool
 mem:FuncId→Bool
 imp:FuncId→Bool
 keep:FuncId→Nat→Option (List Nat×Bool)
 keepB:FuncId→Nat→Option (List Nat×Bool)
 light:FuncId→Nat→List Nat
 perm:FuncId→Nat→List Nat
 frz:TypeId→Bool
 prim:FuncId→Option (List PV→Option PV)
structure Cx where
 fid:Nat
 base:Nat
 N:Nat
def get (tm:List (Nat×PV)) (i:Nat):Option PV:=
 List.rec none (fun p _ j=>bif Nat.beq i p.1 then some p.2 else j) tm
def ZaV {α β:Type} (f:α→Option β) (l:List α):Option (List β):=
 List.rec (some []) (fun a _ j=>(f a).bind fun b=>j.bind fun s=>some (b::s)) l
def ZfD:Value→Option PV
 | .bool b=>some (.bool b)
 | .int k n=>some (.int k n)
 | .string s=>some (.str s)
 | .pointer none=>some .nilp
 | .slice none 0 0=>some .nils
 | .nilFunc=>some .nilf
 | .map none=>some .nilm
 | .nilIface=>some .nili
 |_=>none
def Znl:Value→Option PV
 | .agg cs=>(ZaV ZfD cs.toList).map .agg
 |v=>ZfD v
def Sc.pv:Sc→PV
 | .b x=> .bool x
 | .i k n=> .int k n
 | .s x=> .str x
def Sc.val:Sc→Value
 | .b x=> .bool x
 | .i k n=> .int k n
 | .s x=> .string x
def Zyy:PV→Option Sc
 | .bool x=>some (.b x)
 | .int k n=>some (.i k n)
 | .str x=>some (.s x)
 |_=>none
def ZiR:PV→Option Value
 | .bool b=>some (.bool b)
 | .int k n=>some (.int k n)
 | .str s=>some (.string s)
 | .nilp=>some (.pointer none)
 | .nils=>some (.slice none 0 0)
 | .nilf=>some .nilFunc
 | .nilm=>some (.map none)
 | .nili=>some .nilIface
 |_=>none
def cellsOf:PV→List PV
 | .agg cs=>cs
 |v=> [v]
def ZhS:PV→Option PV
 | .tup _=>none
 |v=>some v
def ev (tm:List (Nat×PV)):Operand→Option PV
 | .tmp t=>get tm t
 | .const v=>Znl v
 | .func f=>some (.func f [] [])
 | .global _=>none
def Za1 (P:Program) (t:TypeId):Option Nat:=(P.info? t).map (·.size)
def ZiU (P:Program) (t:TypeId):Option Nat:=(P.info? t).map (·.bytes)
def Zq1 (P:Program) (t:TypeId):Option Bool:=
 match P.underlying t with
 |some (.struct _)|some (.array _ _)=>some true
 |some _=>some false
 |none=>none
def Zip (P:Program) (t:TypeId):Option TypeId:=
 match P.underlying t with
 |some (.slice e)=>some e
 |_=>none
def Zdn (P:Program) (t:TypeId):Option (List PV):=
 match(P.info? t)with
 |some i=>match i.zero with
  |some v=>ZaV ZfD v.cells.toList
  |none=>none
 |none=>none
def ZcU (P:Program) (t:TypeId):Option PV:=
 match(P.info? t)with
 |some i=>match i.zero with
  |some v=>Znl v
  |none=>none
 |none=>none
def Zdd (P:Program) (t:TypeId) (cs:List PV) (off:Nat):Option PV:=
 match Zq1 P t with
 |some true=>(Za1 P t).bind fun n=>if off+n≤cs.length then some (.agg ((cs.drop off).take n))else none
 |some false=>cs[off]?
 |none=>none
def splice {α:Type} (l:List α) (off:Nat) (cs:List α):List α:=l.take off++(cs++l.drop (off+cs.length))
def ZaY {α:Type} (P:Program):Sem α→Option α
 | .pure a=>some a
 | .program k=>ZaY P (k P)
 |_=>none
def ZiW (op:BinOp) (k:IntKind) (a:Int) (j:IntKind) (b:Int):Option PV:=
 match op with
 | .shl=>if b<0 then none else some (.int k (k.wrap (a*2^(min b.toNat k.bits))))
 | .shr=>if b<0 then none else some (.int k (a.fdiv (2^(min b.toNat k.bits))))
 | .add=>if k=j then some (.int k (k.wrap (a+b)))else none
 | .sub=>if k=j then some (.int k (k.wrap (a-b)))else none
 | .mul=>if k=j then some (.int k (k.wrap (a*b)))else none
 | .quo=>if k=j then if b=0 then none else some (.int k (k.wrap (a.tdiv b)))else none
 | .rem=>if k=j then if b=0 then none else some (.int k (a.tmod b))else none
 | .and=>if k=j then some (.int k (k.wrap (BitVec.ofInt k.bits a&&&BitVec.ofInt k.bits b).toNat))else none
 | .or=>if k=j then some (.int k (k.wrap (BitVec.ofInt k.bits a|||BitVec.ofInt k.bits b).toNat))else none
 | .xor=>if k=j then some (.int k (k.wrap (BitVec.ofInt k.bits a^^^BitVec.ofInt k.bits b).toNat))else none
 | .andNot=>if k=j then some (.int k (k.wrap (BitVec.ofInt k.bits a&&& ~~~ (BitVec.ofInt k.bits b)).toNat))else none
 | .eql=>if k=j then some (.bool (a==b))else none
 | .neq=>if k=j then some (.bool (a !=b))else none
 | .lss=>if k=j then some (.bool (decide (a<b)))else none
 | .leq=>if k=j then some (.bool (decide (a≤b)))else none
 | .gtr=>if k=j then some (.bool (decide (a>b)))else none
 | .geq=>if k=j then some (.bool (decide (a≥b)))else none
def ZmS (op:BinOp) (a b:ByteArray):Option PV:=
 match op with
 | .add=>if a.size+b.size≤9223372036854775807 then some (.str (a++b))else none
 | .eql=>some (.bool (a.data.toList==b.data.toList))
 | .neq=>some (.bool (!(a.data.toList==b.data.toList)))
 | .lss=>some (.bool (Op.bytesLess a.data.toList b.data.toList))
 | .leq=>some (.bool (Op.bytesLess a.data.toList b.data.toList||a.data.toList==b.data.toList))
 | .gtr=>some (.bool (!(Op.bytesLess a.data.toList b.data.toList||a.data.toList==b.data.toList)))
 | .geq=>some (.bool (!Op.bytesLess a.data.toList b.data.toList))
 |_=>none
def ZkL (P:Program) (t:TypeId):Bool:=match P.underlying t with|some .bool=>true|_=>false
def Zok (op:BinOp) (r:Bool):Option PV:=
 match op with
 | .eql=>some (.bool r)
 | .neq=>some (.bool (!r))
 |_=>none
def Zp1 (P:Program) (t:TypeId) (xs j:List PV):Option Bool:=
 (ZaV ZiR xs).bind fun a=>(ZaV ZiR j).bind fun b=>
  if P.eqGuardType P.depth t then none else ZaY P (Op.equal t (.agg a.toArray) (.agg b.toArray))
def Zhu (P:Program) (t:TypeId):Bool:=match P.underlying t with|some (.pointer _)=>true|_=>false
def ZcC (P:Program) (t:TypeId):Bool:=match P.underlying t with|some (.slice _)=>true|_=>false
def Zgs (P:Program) (op:BinOp) (t:TypeId) (x y:PV):Option PV:=
 match x,y with
 | .int k a, .int j b=>ZiW op k a j b
 | .str a, .str b=>ZmS op a b
 | .bool a, .bool b=>if ZkL P t then Zok op (a==b)else none
 | .agg xs, .agg C=>(Zp1 P t xs C).bind (Zok op)
 | .nils, .nils=>if ZcC P t then Zok op true else none
 | .ref _ _ _ _, .nils=>if ZcC P t then Zok op false else none
 | .lst _, .nils=>if ZcC P t then Zok op false else none
 | .nilp, .nilp=>if Zhu P t then Zok op true else none
 | .ptr _ _ _, .nilp=>if Zhu P t then Zok op false else none
 | .box _ _, .nilp=>if Zhu P t then Zok op false else none
 |_,_=>none
def ZAi (op:UnOp) (x:PV):Option PV:=
 match op,x with
 | .neg, .int k n=>some (.int k (k.wrap (0-n)))
 | .not, .bool b=>some (.bool (!b))
 | .xor, .int k n=>some (.int k (k.wrap (BitVec.ofInt k.bits (if k.signed then-1 else k.max)^^^BitVec.ofInt k.bits n).toNat))
 |_,_=>none
def byteCells (s:ByteArray):List (List PV):=s.data.toList.map fun b=> [.int .u8 b.toNat]
def bytesOf:List (List PV)→Option (List UInt8)
 | []=>some []
 | [.int .u8 n]::r=>(bytesOf r).map (UInt8.ofNat n.toNat:: ·)
 |_=>none
def elems (H:List Mem):PV→Option (List (List PV))
 | .nils=>some []
 | .lst es=>some es
 | .ref id i n _=>match H[id]? with
  |some (.row es _ _)=>if i+n≤es.length then some ((es.drop i).take n)else none
  |_=>none
 |_=>none
def ZcY (P:Program) (H:List Mem) (src dst:TypeId) (x:PV):Option PV:=
 match P.underlying src,P.underlying dst,x with
 |some _,some (.int k), .int _ n=>some (.int k (k.wrap n))
 |some _,some .string, .str s=>some (.str s)
 |some _,some .string, .int _ n=>if 0≤n∧n<128 then some (.str ⟨#[UInt8.ofNat n.toNat]⟩)else none
 |some .string,some (.slice e), .str s=>match P.underlying e with
  |some (.int .u8)=>some (.lst (byteCells s))
  |_=>none
 |some (.slice e),some .string,x=>match P.underlying e with
  |some (.int .u8)=>(elems H x).bind fun es=>(bytesOf es).map fun l=> .str ⟨l.toArray⟩
  |_=>none
 |_,_,_=>none
def Ze2 (es:List (List PV)) (z:Nat):Bool:=match es with| []=>true|c::_=>c.length==z
def bHi (n:Nat) (hi:Option PV):Option Nat:=
 match hi with
 |none=>some n
 |some (.int _ h)=>if 0≤h∧h≤n then some h.toNat else none
 |some _=>none
def bLo (h:Nat) (lo:Option PV):Option Nat:=
 match lo with
 |none=>some 0
 |some (.int _ l)=>if 0≤l∧l≤h then some l.toNat else none
 |some _=>none
def ZeT (n:Nat) (lo hi:Option PV):Option (Nat×Nat):=
 (bHi n hi).bind fun h=>(bLo h lo).bind fun l=>some (l,h)
def Zu4 (n m:Nat) (hi:Option PV):Option Nat:=
 match hi with
 |none=>some n
 |some (.int _ h)=>if 0≤h∧h≤m then some h.toNat else none
 |some _=>none
def bMx (h m:Nat) (j:Option PV):Option Nat:=
 match j with
 |none=>some m
 |some (.int _ x)=>if h≤x∧x≤m then some x.toNat else none
 |some _=>none
def ZbU (n m:Nat) (lo hi j:Option PV):Option (Nat×Nat×Nat):=
 if j.isSome&&hi.isNone then none else
 (Zu4 n m hi).bind fun h=>(bLo h lo).bind fun l=>(bMx h m j).bind fun x=>some (l,h,x)
def ZbO (P:Program) (H:List Mem) (t:TypeId) (x:PV) (lo hi j:Option PV):Option PV:=
 match P.underlying t,x with
 |some .string, .str s=>match j with
  |none=>(ZeT s.size lo hi).map fun(l,h)=> .str (s.extract l h)
  |some _=>none
 |some (.slice e), .lst es=>(Za1 P e).bind fun z=>(ZbU es.length es.length lo hi j).bind fun(l,h,_)=>
  if Ze2 es z then some (.lst ((es.take h).drop l))else none
 |some (.slice e), .ref id i n m=>(Za1 P e).bind fun z=>(ZbU n m lo hi j).bind fun(l,h,x)=>
  match H[id]? with
  |some (.row _ z' _)=>if z'=z then some (.ref id (i+l) (h-l) (x-l))else none
  |_=>none
 |some (.slice e), .nils=>(Za1 P e).bind fun _=>(ZbU 0 0 lo hi j).map fun _=> .nils
 |_,_=>none
def fieldAt (P:Program) (s:TypeId) (f:Nat):Option (Nat×TypeId):=
 match P.underlying s with
 |some (.struct j)=>(j[f]?).map fun x=>(x.offset,x.type)
 |_=>none
def Zcx (P:Program) (s:TypeId) (x:PV) (f:Nat):Option PV:=
 (fieldAt P s f).bind fun(off,j)=>
  match Za1 P j with
  |some 0=>none
  |some _=>match x with
   | .ptr id i r=>some (.ptr id i (r+off))
   | .box cs r=>some (.box cs (r+off))
   |_=>none
  |none=>none
def Zik (P:Program) (s:TypeId) (x:PV) (f:Nat):Option PV:=
 (fieldAt P s f).bind fun(off,j)=>match x with
  | .agg cs=>Zdd P j cs off
  |_=>none
def Zav (P:Program) (H:List Mem) (t:TypeId) (x C:PV):Option PV:=
 match C with
 | .int _ j=>
  match P.underlying t,x with
  |some (.slice e), .lst es=>(Za1 P e).bind fun z=>
   if 0≤j∧j<es.length then(es[j.toNat]?).bind fun c=>if c.length=z then some (.box c 0)else none else none
  |some (.slice e), .ref id i n _=>(Za1 P e).bind fun z=>
   if 0≤j∧j<n then
    match H[id]? with
    |some (.row _ z' _)=>if z'=z then some (.ptr id (i+j.toNat) 0)else none
    |_=>none
   else none
  |some (.array n e), .ptr id i r=>(Za1 P e).bind fun z=>if 0≤j∧j<n then some (.ptr id i (r+j.toNat*z))else none
  |some (.array n e), .box cs r=>(Za1 P e).bind fun z=>if 0≤j∧j<n then some (.box cs (r+j.toNat*z))else none
  |_,_=>none
 |_=>none
def ZgL (P:Program) (t:TypeId) (x C:PV):Option PV:=
 match C with
 | .int _ j=>
  match P.underlying t,x with
  |some (.array n e), .agg cs=>(Za1 P e).bind fun z=>if 0≤j∧j<n then Zdd P e cs (j.toNat*z)else none
  |some .string, .str s=>if 0≤j then(s.data.toList[j.toNat]?).map fun b=> .int .u8 b.toNat else none
  |_,_=>none
 |_=>none
def ZbF (P:Program) (H:List Mem) (t:TypeId) (x:PV):Option PV:=
 match x with
 | .ptr id i r=>match H[id]? with
  |some (.row es _ _)=>(es[i]?).bind fun c=>Zdd P t c r
  |_=>none
 | .box c r=>Zdd P t c r
 |_=>none
def Zd5 (P:Program) (H:List Mem) (t:TypeId) (x:PV):Option PV:=
 match P.underlying t,x with
 |some .string, .str s=>some (.int .i64 s.size)
 |some (.array n _),_=>some (.int .i64 n)
 |some (.slice _), .nils=>some (.int .i64 0)
 |some (.slice _), .lst es=>some (.int .i64 es.length)
 |some (.slice _), .ref _ _ n _=>some (.int .i64 n)
 |some (.map _ _), .nilm=>some (.int .i64 0)
 |some (.map _ _), .map id=>match H[id]? with
  |some (.map es)=>some (.int .i64 es.length)
  |_=>none
 |_,_=>none
def min2 (x y:PV):Option PV:=match x,y with
 | .int k a, .int j b=>if k=j then some (.int k (if b<a then b else a))else none
 |_,_=>none
def max2 (x y:PV):Option PV:=match x,y with
 | .int k a, .int j b=>if k=j then some (.int k (if b>a then b else a))else none
 |_,_=>none
def ZhZ (f:PV→PV→Option PV):List PV→PV→Option PV
 | [],a=>some a
 |b::r,a=>(f a b).bind (ZhZ f r)
inductive Ky where
 |s (b:ByteArray)
 |i (k:IntKind) (n:Int)
def keyOf:PV→Option Ky
 | .str s=>some (.s s)
 | .int k n=>some (.i k n)
 |_=>none
def Ky.pv:Ky→PV
 | .s b=> .str b
 | .i k n=> .int k n
def Zx5:Ky→PV→Option Bool
 | .s b, .str s=>some (b.data.toList==s.data.toList)
 | .i k n, .int j m=>if k=j then some (n==m)else none
 |_,_=>none
def ZfH:Ky→TypeDesc→Bool
 | .s _, .string=>true
 | .i _ _, .int _=>true
 |_,_=>false
def Zek (k:Ky):List (PV×PV)→Option (Option PV)
 | []=>some none
 |(q,v)::r=>(Zx5 k q).bind fun b=>bif b then some (some v)else Zek k r
def ZeD (k:Ky) (v:PV):List (PV×PV)→Option (List (PV×PV))
 | []=>some [(k.pv,v)]
 |(q,u)::r=>(Zx5 k q).bind fun b=>bif b then some ((k.pv,v)::r)else(ZeD k v r).map ((q,u):: ·)
def Zjy (P:Program) (t:TypeId):Option (TypeDesc×TypeId):=
 match P.underlying t with
 |some (.map k e)=>match P.underlying k with
  |some .string=>some (.string,e)
  |some (.int i)=>some (.int i,e)
  |_=>none
 |_=>none
def Zmg (H:List Mem):PV→Option (List (PV×PV))
 | .nilm=>some []
 | .map id=>match H[id]? with
  |some (.map es)=>some es
  |_=>none
 |_=>none
def Zen (P:Program) (H:List Mem) (t:TypeId) (x k:PV) (ok:Bool):Option PV:=
 (Zjy P t).bind fun e=>(keyOf k).bind fun key=>bif ZfH key e.1 then(Zmg H x).bind fun es=>(Zek key es).bind fun r=>(ZcU P e.2).bind fun zero=>
 some (if ok then .tup [r.getD zero, .bool r.isSome]else r.getD zero)else none
def ZcS (place:Nat→Option (Nat×Nat)):List PV→List (Nat×PV)→Option (List PV)
 |cs,[]=>some cs
 |cs,(i,v)::r=>(place i).bind fun(off,n)=>
  if(cellsOf v).length=n∧off+n≤cs.length then ZcS place (splice cs off (cellsOf v)) r else none
def ZcQ (z:Nat):List (List PV)→List (Nat×PV)→Option (List (List PV))
 |es,[]=>some es
 |es,(i,v)::r=>if(cellsOf v).length=z∧i<es.length then ZcQ z (es.set i (cellsOf v)) r else none
def ZfN (ρ:Operand→Option PV) (parts:Array (Nat×Operand)):Option (List (Nat×PV)):=
 ZaV (fun x=>((ρ x.2).bind ZhS).map fun v=>(x.1,v)) parts.toList
def ZgR (P:Program) (t:TypeId) (parts:List (Nat×PV)):Option PV:=
 (Zdn P t).bind fun zero=>
 match P.underlying t with
 |some (.struct j)=>(ZcS (fun i=>(j[i]?).bind fun f=>(Za1 P f.type).map fun n=>(f.offset,n)) zero parts).bind fun cs=>
  (ZaV (fun f=>Za1 P f.type) j.toList).map fun _=> .agg cs
 |some (.array _ e)=>(Za1 P e).bind fun n=>(ZcS (fun i=>some (i*n,n)) zero parts).map .agg
 |_=>none
def Zbm (P:Program) (t:TypeId) (len:Nat) (parts:List (Nat×PV)):Option Mem:=
 (Zip P t).bind fun e=>(Za1 P e).bind fun z=>(Zdn P e).bind fun zero=>
  if(0<len∨parts=[])∧0<z∧zero.length=z∧len*z≤16777216 then(ZcQ z (List.replicate len zero) parts).map fun es=> .row es z true else none
def Zfm (P:Program) (t:TypeId) (len cap:PV):Option (Mem×Nat×Nat):=
 match len,cap with
 | .int _ l, .int _ c=>(Zip P t).bind fun e=>(Za1 P e).bind fun z=>(ZiU P e).bind fun by_=>(Zdn P e).bind fun zero=>
  if 0≤l∧l≤c∧by_*c≤281474976710656∧c<9223372036854775808∧0<z∧zero.length=z then
   some (.row (List.replicate c.toNat zero) z true,l.toNat,c.toNat)else none
 |_,_=>none
def ZaL:Nat:=40
def exp:Nat→List Mem→PV→Option PV
 |0,_,_=>none
 |n+1,H,v=>match v with
  | .ref id i l _=>match H[id]? with
   |some (.row es _ _)=>if i+l≤es.length then(ZaV (ZaV (exp n H)) ((es.drop i).take l)).map .lst else none
   |_=>none
  | .ptr id i r=>match H[id]? with
   |some (.row es _ _)=>(es[i]?).bind fun c=>(ZaV (exp n H) c).map fun q=> .box q r
   |_=>none
  | .map _=>none
  | .func f a c=>(ZaV (exp n H) a).bind fun j=>(ZaV (exp n H) c).map fun C=> .func f j C
  | .agg cs=>(ZaV (exp n H) cs).map .agg
  | .tup vs=>(ZaV (exp n H) vs).map .tup
  |v=>some v
def rch:Nat→List Mem→PV→List Nat
 |0,_,_=> []
 |n+1,H,v=>match v with
  | .ref id i l _=>match H[id]? with
   |some (.row es _ _)=>id::((es.drop i).take l).flatMap fun c=>c.flatMap (rch n H)
   |_=> []
  | .ptr id i _=>match H[id]? with
   |some (.row es _ _)=>id::((es[i]?).getD []).flatMap (rch n H)
   |_=> []
  | .func _ a c=>a.flatMap (rch n H)++c.flatMap (rch n H)
  | .agg cs=>cs.flatMap (rch n H)
  | .tup vs=>vs.flatMap (rch n H)
  |_=> []
def freeze1 (H:List Mem) (id:Nat):List Mem:=
 match H[id]? with
 |some (.row es z _)=>H.set id (.row es z false)
 |_=>H
def freeze (ids:List Nat) (H:List Mem):List Mem:=ids.foldl freeze1 H
def Zha:PV→Bool
 | .bool _| .int _ _| .str _| .nilp| .nils| .nilf| .nilm| .nili| .ifc _ _=>true
 | .lst es=>es.isEmpty
 | .agg cs=>cs.all fun c=>match c with| .bool _| .int _ _| .str _| .nilp| .nils| .nilf| .nilm| .nili| .ifc _ _=>true| .lst es=>es.isEmpty|_=>false
 | .tup vs=>vs.all fun c=>match c with
  | .bool _| .int _ _| .str _| .nilp| .nils| .nilf| .nilm| .nili| .ifc _ _=>true
  | .lst es=>es.isEmpty
  | .agg cs=>cs.all fun c=>match c with| .bool _| .int _ _| .str _| .nilp| .nils| .nilf| .nilm| .nili| .ifc _ _=>true| .lst es=>es.isEmpty|_=>false
  |_=>false
 |_=>false
def Zl3 (tm:List (Nat×PV)):List Nat→List (Nat×PV)
 | []=> []
 |k::r=>match get tm k with
  |some v=>(k,v)::Zl3 tm r
  |none=>Zl3 tm r
def ZgP:PV→Bool
 | .ref _ _ _ _| .ptr _ _ _| .map _=>false
 | .func _ a c=>a.isEmpty&&c.isEmpty
 | .agg cs=>cs.all fun c=>match c with| .ref _ _ _ _| .ptr _ _ _| .map _| .agg _| .tup _| .func _ _ _=>false|_=>true
 | .tup vs=>vs.isEmpty
 |_=>true
def ZfR:Mem→Bool
 | .row es _ _=>es.all fun c=>c.all ZgP
 | .map es=>es.all fun(k,v)=>ZgP k&&ZgP v
 | .dead=>false
def Zcq:PV→List Nat
 | .ref id _ _ _| .ptr id _ _| .map id=> [id]
 |_=> []
def ZcI:PV→List Nat
 | .agg cs=>cs.flatMap Zcq
 | .func _ a c=>a.flatMap Zcq++c.flatMap Zcq
 |v=>Zcq v
def ZdF:PV→Bool
 | .agg _| .tup _| .func _ _ _=>false
 |_=>true
def ZbC:PV→Bool
 | .agg cs=>cs.all ZdF
 | .func _ a c=>a.all ZdF&&c.all ZdF
 | .tup vs=>vs.isEmpty
 |_=>true
def Zcj (l:List Nat) (i:Nat):List Nat:=if l.contains i then l else l++ [i]
def pos (i:Nat):List Nat→Nat
 | []=>0
 |j::r=>bif Nat.beq i j then 0 else pos i r+1
def ZjQ (l:List Nat):PV→PV
 | .ref id i n m=> .ref (pos id l) i n m
 | .ptr id i r=> .ptr (pos id l) i r
 | .map id=> .map (pos id l)
 |v=>v
def ren (l:List Nat):PV→PV
 | .agg cs=> .agg (cs.map (ZjQ l))
 | .func f a c=> .func f (a.map (ZjQ l)) (c.map (ZjQ l))
 |v=>ZjQ l v
def Zm3 (m:Mem):List Nat:=bif ZfR m then[]else match m with
 | .row es _ _=>es.flatMap fun c=>c.flatMap ZcI
 | .map es=>es.flatMap fun x=>ZcI x.1++ZcI x.2
 | .dead=> []
def okM (m:Mem):Bool:=bif ZfR m then true else match m with
 | .row es _ _=>es.all fun c=>c.all ZbC
 | .map es=>es.all fun x=>ZbC x.1&&ZbC x.2
 | .dead=>true
def Znv (l:List Nat) (m:Mem):Mem:=bif ZfR m then m else match m with
 | .row es z m=> .row (es.map fun c=>c.map (ren l)) z m
 | .map es=> .map (es.map fun x=>(ren l x.1,ren l x.2))
 | .dead=> .dead
def ZnX (H:List Mem) (i:Nat):List Nat:=match H[i]? with|some m=>Zm3 m|none=> []
def Zed (H:List Mem):Nat→List Nat→List Nat
 |0,ids=>ids
 |n+1,ids=>Zed H n ((ids.flatMap (ZnX H)).foldl Zcj ids)
def Zeb (tm:List (Nat×PV)) (H:List Mem):Option St:=
 let ids:=Zed H 3 ((tm.flatMap fun x=>ZcI x.2).foldl Zcj [])
 if tm.all (fun x=>ZbC x.2)then
  (ZaV (fun i=>(H[i]?).bind fun m=>if okM m&&(Zm3 m).all ids.contains then some (Znv ids m)else none) ids).map fun H'=>⟨tm.map fun x=>(x.1,ren ids x.2),H'⟩
 else none
def Zbq:Nat→List PV→List (Nat×PV)
 |_,[]=> []
 |i,v::r=>(i,v)::Zbq (i+1) r
def sh1 (b:Nat):PV→PV
 | .ref id i n m=> .ref (b+id) i n m
 | .ptr id i r=> .ptr (b+id) i r
 | .map id=> .map (b+id)
 |v=>v
def sh (b:Nat):PV→PV
 | .agg cs=> .agg (cs.map (sh1 b))
 | .func f a c=> .func f (a.map (sh1 b)) (c.map (sh1 b))
 |v=>sh1 b v
def shM (b:Nat):Mem→Mem
 | .row es z m=> .row (es.map fun c=>c.map (sh b)) z m
 | .map es=> .map (es.map fun x=>(sh b x.1,sh b x.2))
 | .dead=> .dead
def Zyl:Mem→Bool
 | .row es _ _=>es.all fun c=>c.all ZbC
 | .map es=>es.all fun x=>ZbC x.1&&ZbC x.2
 | .dead=>true
def ZhY:PV→Bool
 | .lst es=>es.isEmpty
 | .box _ _| .agg _| .func _ _ _| .tup _=>false
 |_=>true
def Zde:PV→Bool
 | .agg cs=>cs.all ZhY
 | .func _ a c=>a.all ZhY&&c.all ZhY
 |v=>ZhY v
def ZlK:Mem→Bool
 | .row es _ _=>es.all fun c=>c.all Zde
 | .map es=>es.all fun x=>Zde x.1&&Zde x.2
 | .dead=>true
def Zcg:PV→List PV
 | .tup vs=>vs
 |v=> [v]
def ZhC:PV→List PV→PV
 | .tup _,vs=> .tup vs
 |_,v::_=>v
 |v,[]=>v
structure Ev where
 ex:Cx→Code→St→Option (Ex×St)
 rn:FuncId→List PV→List Mem→Option (PV×List Mem)
section
variable (P : Program) (h : Hints) (E : Ev)
def Zb8 (f:FuncId) (j:List PV):Option PV:=
 match h.prim f with
 |some g=>(g j).bind fun v=>exp ZaL [] v
 |none=>(E.rn f j []).bind fun x=>exp ZaL x.2 x.1
def ZdL (f:FuncId) (j:List PV) (base:Nat):Option (PV×List Mem×Bool):=
 (E.rn f j []).bind fun x=>(Zeb (Zbq 0 (Zcg x.1)) x.2).bind fun st=>
 if(st.tm.all fun y=>ZbC y.2)&&st.hp.all Zyl then
  some (ZhC x.1 (st.tm.map fun y=>sh base y.2),st.hp.map (shM base),(st.tm.all fun y=>Zde y.2)&&st.hp.all ZlK)
 else none
def Zoe (f:FuncId) (args j:List PV) (H:List Mem):Option (PV×List Mem×List Nat):=
 (Zb8 h E f j).bind fun q=>
 if h.mem f then some (q,[],args.flatMap (rch ZaL H))else if Zha q then some (q,[],[])else none
def ZwC (f:FuncId) (args j:List PV) (H:List Mem) (base:Nat):Option (PV×List Mem×List Nat):=
 (ZdL E f j base).map fun r=>(r.1,r.2.1,bif r.2.2 then[]else args.flatMap (rch ZaL H))
def Zgt (f:FuncId) (args:List PV) (H:List Mem) (base:Nat):Option (PV×List Mem×List Nat):=
 (ZaV (exp ZaL H) args).bind fun j=>bif h.imp f then ZwC E f args j H base else Zoe h E f args j H
def Zbp (H:List Mem) (b:Builtin) (ts:Array TypeId) (args:List PV):Option PV:=
 match b,args with
 | .len,[x]=>(ts[0]?).bind fun t=>Zd5 P H t x
 | .min,x::r=>ZhZ min2 r x
 | .max,x::r=>ZhZ max2 r x
 |_,_=>none
def val (v:Option PV):Option (PV×List Mem×List Nat):=v.map fun v=>(v,[],[])
abbrev Res:=Option (PV×List Mem×List Nat)
def Zqb (ρ:Operand→Option PV) (c a b:Operand):Option PV:=(ρ c).bind fun t=>match t with| .bool t=>if t then ρ a else ρ b|_=>none
def Zm1 (base:Nat) (t:TypeId):Res:=(Zdn P t).map fun cs=>(.ptr base 0 0,[Mem.row [cs] cs.length true],[])
def Zzq (base:Nat) (v:Option PV):Res:=(v.bind ZhS).map fun v=>(.ptr base 0 0,[Mem.row [cellsOf v] (cellsOf v).length true],[])
def Zkf (ρ:Operand→Option PV) (t:TypeId) (parts:Array (Nat×Operand)):Option PV:=(ZfN ρ parts).bind fun ps=>ZgR P t ps
def ZbM (base:Nat) (ρ:Operand→Option PV) (t:TypeId) (n:Nat) (parts:Array (Nat×Operand)):Res:=
 (ZfN ρ parts).bind fun ps=>(Zbm P t n ps).map fun m=>(.ref base 0 n n,[m],[])
def Zjv (H:List Mem) (t:TypeId) (v:Option PV):Option PV:=v.bind fun p=>ZbF P H t p
def Zdl (v:Option PV):Option PV:=v.bind fun p=>match p with
 | .ptr _ _ _| .box _ _| .func _ _ _=>some p
 |_=>none
def ZAb (op:BinOp) (t:TypeId) (x y:Option PV):Option PV:=x.bind fun a=>y.bind fun b=>Zgs P op t a b
def Zm2 (t:TypeId):Bool:=match P.underlying t with|some (.interface _)=>true|_=>false
def ZyE (op:BinOp) (t:TypeId) (y:Operand) (x:Option PV):Option PV:=match y,x with
 | .const .nilIface,some .nili=>bif Zm2 P t then Zok op true else none
 | .const .nilIface,some (.ifc _ _)=>bif Zm2 P t then Zok op false else none
 |_,_=>none
def Znk (op:BinOp) (t:TypeId) (y:Operand) (u v:Option PV):Option PV:=match ZAb P op t u v with
 |some r=>some r
 |none=>ZyE P op t y u
def aUn (op:UnOp) (x:Option PV):Option PV:=x.bind fun a=>ZAi op a
def Zst (H:List Mem) (s d:TypeId) (x:Option PV):Option PV:=x.bind fun a=>ZcY P H s d a
def Zqt (ρ:Operand→Option PV) (fn:Fn) (first j:Array Operand):Option PV:=
 match fn with
 | .func f=>(ZaV ρ first.toList).bind fun a=>(ZaV ρ j.toList).map fun c=> .func f a c
 |_=>none
def Zff (base:Nat) (t:TypeId) (r:Option Operand):Res:=
 match r with
 |none=>(Zjy P t).map fun _=>(.map base,[Mem.map []],[])
 |some _=>none
def Zcy (base:Nat) (t:TypeId) (l c:Option PV):Res:=
 l.bind fun l=>c.bind fun c=>(Zfm P t l c).map fun g=>(.ref base 0 g.2.1 g.2.2,[g.1],[])
def Zm4 (ρ:Operand→Option PV) (x:Option Operand):Option (Option PV):=match x with|none=>some none|some l=>(ρ l).map some
def Zcd (H:List Mem) (ρ:Operand→Option PV) (t:TypeId) (x:Operand) (lo hi j:Option Operand):Option PV:=
 (ρ x).bind fun v=>(Zm4 ρ lo).bind fun l=>(Zm4 ρ hi).bind fun k=>(Zm4 ρ j).bind fun m=>ZbO P H t v l k m
def Zft (s:TypeId) (v:Option PV) (f:Nat):Option PV:=v.bind fun v=>Zcx P s v f
def Zpz (s:TypeId) (v:Option PV) (f:Nat):Option PV:=v.bind fun v=>Zik P s v f
def Zbh (H:List Mem) (t:TypeId) (v j:Option PV):Option PV:=v.bind fun v=>j.bind fun j=>Zav P H t v j
def Zpv (t:TypeId) (v j:Option PV):Option PV:=v.bind fun v=>j.bind fun j=>ZgL P t v j
def Zia (H:List Mem) (t:TypeId) (v j:Option PV) (ok:Bool):Option PV:=v.bind fun v=>j.bind fun j=>Zen P H t v j ok
def notIfc (P:Program) (t:TypeId):Bool:=
 match P.underlying t with
 |some (.interface _)=>false
 |some _=>true
 |none=>false
def Zgj (t:TypeId) (v:Option PV):Option PV:=v.bind fun v=>bif notIfc P t then(Zyy v).map (.ifc t)else none
def Zdf (v:Option PV) (u:TypeId) (ok:Bool):Option PV:=v.bind fun v=>bif notIfc P u then(match v with
 | .ifc t x=>bif Nat.beq t u then some (bif ok then .tup [x.pv, .bool true]else x.pv)else bif ok then(ZcU P u).map fun z=> .tup [z, .bool false]else none
 | .nili=>bif ok then(ZcU P u).map fun z=> .tup [z, .bool false]else none
 |_=>none)else none
def Zes (v:Option PV) (i:Nat):Option PV:=v.bind fun v=>match v with| .tup vs=>vs[i]? |_=>none
def Zb1 (H:List Mem) (ρ:Operand→Option PV) (b:Builtin) (c:Call):Option PV:=(ZaV ρ c.args.toList).bind fun vs=>Zbp P H b c.argTypes vs
def ZeQ (H:List Mem) (base:Nat) (ρ:Operand→Option PV) (f:FuncId) (c:Call):Res:=
 if h.opn f then none else(ZaV ρ c.args.toList).bind fun vs=>Zgt h E f vs H base
def Zhz (H:List Mem) (base:Nat) (ρ:Operand→Option PV) (c:Call):Res:=
 match c.callee with
 | .builtin b=>val (Zb1 P H ρ b c)
 | .value (.func f)=>ZeQ h E H base ρ f c
 |_=>none
def opR (H:List Mem) (base:Nat) (ρ:Operand→Option PV) (o:Oper):Res:=
 match o.op with
 | .move x=>val (ρ x)
 | .assign x=>val (ρ x)
 | .pick c a b=>val (Zqb ρ c a b)
 | .alloc t=>Zm1 P base t
 | .box _ x=>Zzq base (ρ x)
 | .build t parts=>val (Zkf P ρ t parts)
 | .buildSlice t n parts=>ZbM P base ρ t n parts
 | .load t a=>val (Zjv P H t (ρ a))
 | .nilCheck x=>val (Zdl (ρ x))
 | .binOp op t x y _=>val (Znk P op t y (ρ x) (ρ y))
 | .unOp op _ x=>val (aUn op (ρ x))
 | .convert s d x=>val (Zst P H s d (ρ x))
 | .makeFunc fn first j=>val (Zqt ρ fn first j)
 | .makeMap t r=>Zff P base t r
 | .makeSlice t l c=>Zcy P base t (ρ l) (ρ c)
 | .slice t x lo hi C=>val (Zcd P H ρ t x lo hi C)
 | .fieldAddr s x f=>val (Zft P s (ρ x) f)
 | .field s x f=>val (Zpz P s (ρ x) f)
 | .indexAddr t x i=>val (Zbh P H t (ρ x) (ρ i))
 | .index t x i=>val (Zpv P t (ρ x) (ρ i))
 | .lookup t x k ok=>val (Zia P H t (ρ x) (ρ k) ok)
 | .extract x i=>val (Zes (ρ x) i)
 | .makeInterface t x=>val (Zgj P t (ρ x))
 | .typeAssert x _ u ok=>val (Zdf P (ρ x) u ok)
 | .call c=>Zhz P h E H base ρ c
 |_=>none
def ZcL (H:List Mem) (t:TypeId) (a x:PV):Option (List Mem):=
 match a with
 | .ptr id i r=>match H[id]? with
  |some (.row es z true)=>(es[i]?).bind fun c=>(Za1 P t).bind fun n=>
   if(cellsOf x).length=n∧r+n≤c.length then some (H.set id (.row (es.set i (splice c r (cellsOf x))) z true))else none
  |_=>none
 |_=>none
def Zmz (H:List Mem):PV→Option (List (List PV))
 | .str b=>some (byteCells b)
 |x=>elems H x
def Ze7 (P:Program) (t:Option TypeId):Bool:=
 match t with
 |none=>true
 |some t=>match P.underlying t with
  |some (.int _)=>false
  |some _=>true
  |none=>false
def ZbE (H:List Mem) (z by_:Nat) (s:PV) (new:List (List PV)):Option (PV×List Mem):=
 match s with
 | .nils=>if new.isEmpty then some (.nils,H)else if new.length*by_≤140737488355328 then some (.ref H.length 0 new.length new.length,H++ [Mem.row new z true])else none
 | .ref id i n m=>match H[id]? with
  |some (.row es z' true)=>
   if z'=z∧i+n≤es.length then
    if new.isEmpty then some (s,H)
    else if n+new.length≤m then
     if i+(n+new.length)≤es.length then some (.ref id i (n+new.length) m,H.set id (.row (splice es (i+n) new) z true))else none
    else if(n+new.length)*by_≤140737488355328 then
     some (.ref H.length 0 (n+new.length) (n+new.length),(H.set id .dead)++ [Mem.row ((es.drop i).take n++new) z true])
    else none
   else none
  |_=>none
 |_=>none
def Zcw (H:List Mem) (ts:Array TypeId) (s x:PV):Option (PV×List Mem):=
 (ts[0]?).bind fun t=>(Zip P t).bind fun e=>(Za1 P e).bind fun z=>(ZiU P e).bind fun by_=>(Zdn P e).bind fun zero=>(Zmz H x).bind fun new=>
 if Ze7 P (ts[1]?)=true∧0<by_∧0<z∧zero.length=z∧Ze2 new z=true then ZbE H z by_ s new else none
def ZnZ (H:List Mem) (ts:Array TypeId) (d x:PV):Option (PV×List Mem):=
 (ts[0]?).bind fun t=>(Zip P t).bind fun e=>(Za1 P e).bind fun z=>(Zmz H x).bind fun src=>
 if 0<z∧Ze2 src z=true then
 match d with
 | .nils=>some (.int .i64 0,H)
 | .ref id i n _=>match H[id]? with
  |some (.row es z' true)=>
   if z'=z∧i+n≤es.length then
    some (.int .i64 (min src.length n:Nat),H.set id (.row (splice es i (src.take n)) z true))
   else none
  |_=>none
 |_=>none
 else none
def Zji (H:List Mem) (ts:Array TypeId) (d:PV):Option (PV×List Mem):=
 (ts[0]?).bind fun t=>(Zip P t).bind fun e=>(Za1 P e).bind fun z=>(Zdn P e).bind fun zero=>
 if 0<z∧zero.length=z then
 match d with
 | .nils=>some (.tup [],H)
 | .ref id i n _=>match H[id]? with
  |some (.row es z' true)=>
   if z'=z∧i+n≤es.length then some (.tup [],H.set id (.row (splice es i (List.replicate n zero)) z true))else none
  |_=>none
 |_=>none
 else none
def Zcu (f:FuncId) (args:List PV) (H:List Mem):Option (PV×List Mem):=
 if h.opn f then E.rn f args H
 else(Zgt h E f args H H.length).map fun x=>(x.1,freeze x.2.2 H++x.2.1)
abbrev ZlE:=Option (PV×List Mem)
def ZeE (H:List Mem) (t:TypeId) (p v:Option PV):ZlE:=p.bind fun p=>(v.bind ZhS).bind fun v=>(ZcL P H t p v).map fun H'=>(.tup [],H')
def ZpS (H:List Mem) (t:TypeId) (m k x:Option PV):ZlE:=
 (Zjy P t).bind fun e=>m.bind fun m=>k.bind fun k=>x.bind fun v=>(keyOf k).bind fun key=>bif ZfH key e.1 then
  match m with
  | .map id=>match H[id]? with
   |some (.map es)=>(ZeD key v es).map fun es'=>(.tup [],H.set id (.map es'))
   |_=>none
  |_=>none
  else none
def frzT (ts:Array TypeId):Bool:=match ts[0]? with|some t=>h.frz t|none=>false
def ZdO (H:List Mem) (ts:Array TypeId) (s x:PV):Option (PV×List Mem):=
 bif frzT h ts then(exp ZaL H x).bind fun j=>Zcw P (freeze (rch ZaL H x) H) ts s j else Zcw P H ts s x
def ZdU (H:List Mem) (ρ:Operand→Option PV) (c:Call):ZlE:=(ZaV ρ c.args.toList).bind fun vs=>match vs with| [s,x]=>ZdO P h H c.argTypes s x|_=>none
def ZnW (H:List Mem) (ρ:Operand→Option PV) (c:Call):ZlE:=(ZaV ρ c.args.toList).bind fun vs=>match vs with| [s,x]=>ZnZ P H c.argTypes s x|_=>none
def Zjn (H:List Mem) (ρ:Operand→Option PV) (c:Call):ZlE:=(ZaV ρ c.args.toList).bind fun vs=>match vs with| [s]=>Zji P H c.argTypes s|_=>none
def Zm0 (H:List Mem) (ρ:Operand→Option PV) (f:FuncId) (c:Call):ZlE:=(ZaV ρ c.args.toList).bind fun vs=>Zcu h E f vs H
def ZqZ (H:List Mem) (ρ:Operand→Option PV) (x:Operand) (c:Call):ZlE:=
 (ρ x).bind fun C=>match C with
  | .func f first j=>(ZaV ρ c.args.toList).bind fun vs=>Zcu h E f (first++vs++j) H
  |_=>none
def Zf2 (H:List Mem) (ρ:Operand→Option PV) (b:Builtin) (c:Call):ZlE:=
 match b with
 | .append=>ZdU P h H ρ c
 | .copy=>ZnW P H ρ c
 | .clear=>Zjn P H ρ c
 |_=>none
def Zqg (H:List Mem) (ρ:Operand→Option PV) (c:Call):ZlE:=
 match c.callee with
 | .builtin b=>Zf2 P h H ρ b c
 | .value (.func f)=>Zm0 h E H ρ f c
 | .value x=>ZqZ h E H ρ x c
 |_=>none
def opW (H:List Mem) (ρ:Operand→Option PV) (o:Oper):ZlE:=
 match o.op with
 | .store t a x=>ZeE P H t (ρ a) (ρ x)
 | .mapUpdate t m k x=>ZpS P H t (ρ m) (ρ k) (ρ x)
 | .insert t m k x=>ZpS P H t (ρ m) (ρ k) (ρ x)
 | .call c=>Zqg P h E H ρ c
 |_=>none
def ZzE (c:Call):Bool:=
 match c.callee with
 | .builtin b=>(match b with| .append| .copy| .clear=>true|_=>false)
 | .value (.func f)=>h.opn f
 |_=>true
def isW (o:Oper):Bool:=
 match o.op with
 | .store _ _ _| .mapUpdate _ _ _ _| .insert _ _ _ _=>true
 | .call c=>ZzE h c
 |_=>false
def ZfM (o:Oper):Bool:=
 match o.op with
 | .store _ _ _=>true
 | .call c=>(match c.callee with| .builtin b=>(match b with| .append=>true|_=>false)|_=>false)
 |_=>false
def isA (o:Oper):Bool:=
 match o.op with
 | .alloc _| .box _ _| .buildSlice _ _ _=>true
 |_=>false
def ZiN (H:List Mem) (r:Res):ZlE:=r.map fun x=>(x.1,freeze x.2.2 H++x.2.1)
def ZbY (H:List Mem) (v:Option PV):ZlE:=v.map fun v=>(v,H)
def Zg3 (H:List Mem) (ρ:Operand→Option PV) (c:Call):ZlE:=
 match c.callee with
 | .builtin b=>(match b with| .append=>ZdU P h H ρ c| .copy=>ZnW P H ρ c| .clear=>Zjn P H ρ c|b=>ZbY H (Zb1 P H ρ b c))
 | .value (.func f)=>if h.opn f then Zm0 h E H ρ f c else ZiN H (ZeQ h E H H.length ρ f c)
 | .value x=>ZqZ h E H ρ x c
 |_=>none
def opA (H:List Mem) (ρ:Operand→Option PV) (o:Oper):ZlE:=
 match o.op with
 | .move x=>ZbY H (ρ x)
 | .assign x=>ZbY H (ρ x)
 | .pick c a b=>ZbY H (Zqb ρ c a b)
 | .alloc t=>ZiN H (Zm1 P H.length t)
 | .box _ x=>ZiN H (Zzq H.length (ρ x))
 | .build t parts=>ZbY H (Zkf P ρ t parts)
 | .buildSlice t n parts=>ZiN H (ZbM P H.length ρ t n parts)
 | .load t a=>ZbY H (Zjv P H t (ρ a))
 | .nilCheck x=>ZbY H (Zdl (ρ x))
 | .binOp op t x y _=>ZbY H (Znk P op t y (ρ x) (ρ y))
 | .unOp op _ x=>ZbY H (aUn op (ρ x))
 | .convert s d x=>ZbY H (Zst P H s d (ρ x))
 | .makeFunc fn first j=>ZbY H (Zqt ρ fn first j)
 | .makeMap t r=>ZiN H (Zff P H.length t r)
 | .makeSlice t l c=>ZiN H (Zcy P H.length t (ρ l) (ρ c))
 | .slice t x lo hi C=>ZbY H (Zcd P H ρ t x lo hi C)
 | .fieldAddr s x f=>ZbY H (Zft P s (ρ x) f)
 | .field s x f=>ZbY H (Zpz P s (ρ x) f)
 | .indexAddr t x i=>ZbY H (Zbh P H t (ρ x) (ρ i))
 | .index t x i=>ZbY H (Zpv P t (ρ x) (ρ i))
 | .lookup t x k ok=>ZbY H (Zia P H t (ρ x) (ρ k) ok)
 | .extract x i=>ZbY H (Zes (ρ x) i)
 | .makeInterface t x=>ZbY H (Zgj P t (ρ x))
 | .typeAssert x _ u ok=>ZbY H (Zdf P (ρ x) u ok)
 | .call c=>Zg3 P h E H ρ c
 | .store t a x=>ZeE P H t (ρ a) (ρ x)
 | .mapUpdate t m k x=>ZpS P H t (ρ m) (ρ k) (ρ x)
 | .insert t m k x=>ZpS P H t (ρ m) (ρ k) (ρ x)
 |_=>none
def Zfg (N:Nat) (dst:Option Tmp) (v:PV) (tm:List (Nat×PV)):Option (List (Nat×PV)):=
 match dst with
 |none=>some tm
 |some d=>if d<N then some ((d,v)::tm)else none
def ZdM (ops:Array Oper) (tm:List (Nat×PV)) (o:Oper):Option Bool:=
 match o.guard with
 |none=>some true
 |some (j,want)=>match((ops[j]?).bind (·.dst)).bind (get tm)with
  |some (.bool b)=>some (b==want)
  |some (.tup [])=>some false
  |_=>none
def ZcV (N:Nat) (ops:Array Oper) (o:Oper) (s:St):Option St:=
 (ZdM ops s.tm o).bind fun b=>
 bif b then(opA P h E s.hp (ev s.tm) o).bind fun x=>(Zfg N o.dst x.1 s.tm).map fun tm=>⟨tm,x.2⟩
 else(Zfg N o.dst (.tup []) s.tm).map fun tm=>⟨tm,s.hp⟩
def Zeh (N:Nat) (ops:Array Oper) (l:List Oper):St→Option St:=
 List.rec some (fun o _ j s=>(ZcV P h E N ops o s).bind j) l
def has (i:Nat) (l:List Nat):Bool:=List.rec false (fun j _ C=>bif Nat.beq i j then true else C) l
def ZaK (H:List Mem) (ρ:Operand→Option PV) (o:Oper):Option PV:=
 (opR P h E H H.length ρ o).bind fun x=>match x with|(v,[],[])=>some v|_=>none
def Zsx (N:Nat) (ops:Array Oper) (o:Oper) (s:St):Option St:=
 (ZdM ops s.tm o).bind fun b=>
 bif b then(ZaK P h E s.hp (ev s.tm) o).bind fun v=>(Zfg N o.dst v s.tm).map fun tm=>⟨tm,s.hp⟩
 else(Zfg N o.dst (.tup []) s.tm).map fun tm=>⟨tm,s.hp⟩
def Zci (N:Nat) (ops:Array Oper) (ls:List Nat) (i:Nat) (o:Oper) (s:St):Option St:=
 bif has i ls then Zsx P h E N ops o s else ZcV P h E N ops o s
def Zx6:PV→PV→Bool
 | .int k a, .int l b=>decide (k=l)&&decide (a=b)
 | .bool a, .bool b=>a==b
 | .str a, .str b=>a.data.toList==b.data.toList
 | .ref i a n m, .ref j b o q=>Nat.beq i j&&Nat.beq a b&&Nat.beq n o&&Nat.beq m q
 | .ptr i a n, .ptr j b o=>Nat.beq i j&&Nat.beq a b&&Nat.beq n o
 | .nils, .nils=>true
 | .nilp, .nilp=>true
 | .nili, .nili=>true
 | .ifc t (.b a), .ifc u (.b b)=>Nat.beq t u&&a==b
 | .ifc t (.i k a), .ifc u (.i l b)=>Nat.beq t u&&(decide (k=l)&&decide (a=b))
 | .ifc t (.s a), .ifc u (.s b)=>Nat.beq t u&&a.data.toList==b.data.toList
 |_,_=>false
def ZqD (s:PV→PV→Bool) (a:List PV):List PV→Bool:=
 List.rec (fun b=>match b with| []=>true|_::_=>false) (fun x _ j b=>match b with| []=>false|y::r=>s x y&&j r) a
def Zs5 (s:PV→PV→Bool) (a:List (List PV)):List (List PV)→Bool:=
 List.rec (fun b=>match b with| []=>true|_::_=>false) (fun x _ j b=>match b with| []=>false|y::r=>ZqD s x y&&j r) a
def ZjW (s:PV→PV→Bool):PV→PV→Bool
 | .lst a, .lst b=>Zs5 s a b
 | .agg a, .agg b=>ZqD s a b
 | .box a i, .box b j=>ZqD s a b&&Nat.beq i j
 |u,v=>s u v
def Zt9:PV→PV→Bool:=ZjW (ZjW (ZjW (ZjW Zx6)))
def ZfC (u v:PV):Bool:=bif Zt9 u v then true else @decide (u=v) (Classical.propDecidable _)
def Zdp (acc:List (Nat×Oper×List (Nat×PV)×PV)) (H:List Mem):Option Unit:=
 List.rec (some ()) (fun x _ j=>(ZaK P h E H (ev x.2.2.1) x.2.1).bind fun v=>bif ZfC v x.2.2.2 then j else none) acc
def ZdT (o:Oper) (j:Nat):Bool:=List.rec false (fun e _ C=>bif Nat.beq e.on j&&Region.binds .any e then true else C) o.after.toList
def Zb9 (o:Oper) (acc:List (Nat×Oper×List (Nat×PV)×PV)):List (Nat×Oper×List (Nat×PV)×PV):=
 bif isW h o then List.rec [] (fun x _ j=>bif ZdT o x.1 then j else x::j) acc else acc
def Zur (ops:Array Oper) (i:Nat) (o:Oper) (s:St) (acc:List (Nat×Oper×List (Nat×PV)×PV)):Option (List (Nat×Oper×List (Nat×PV)×PV)):=
 (ZdM ops s.tm o).bind fun b=>bif b then(ZaK P h E s.hp (ev s.tm) o).map fun v=>(i,o,s.tm,v)::acc else some acc
def Zbd (N:Nat) (ops:Array Oper) (ls:List Nat) (l:List Oper):Nat→List (Nat×Oper×List (Nat×PV)×PV)→St→Option St:=
 List.rec (fun _ _ s=>some s) (fun o _ I i acc s=>(Zci P h E N ops ls i o s).bind fun C=>
  bif has i ls then(Zur P h E ops i o s acc).bind fun j=>I (i+1) j C else(Zdp P h E (Zb9 h o acc) C.hp).bind fun _=>I (i+1) (Zb9 h o acc) C) l
def Zps (N:Nat) (ls:List Nat) (ops:Array Oper) (s:St):Option St:=
 match ls with
 | []=>Zeh P h E N ops ops.toList s
 |ls=>Zbd P h E N ops ls ops.toList 0 [] s
def Zdq (l:List Nat) (i:Nat):Nat:=List.rec 0 (fun j _ C=>bif Nat.beq i j then 0 else C+1) l
def Zyu (π:List Nat) (l:List Edge):List Edge:=List.rec [] (fun e _ j=>⟨Zdq π e.on,e.ground⟩::j) l
def ZtV (π:List Nat) (o:Oper):Oper:=⟨o.dst,o.op,o.type,o.pos,(Zyu π o.after.toList).toArray,match o.guard with|some (j,b)=>some (Zdq π j,b)|none=>none⟩
def Zhk (π:List Nat) (ops:Array Oper) (l:List Nat):List Oper:=List.rec [] (fun i _ j=>match ops[i]? with|some o=>ZtV π o::j|none=>j) l
def rgo (π:List Nat) (ops:Array Oper):Array Oper:=match π with| []=>ops|i::r=>(Zhk (i::r) ops (i::r)).toArray
def Zdy:Code→Nat
 | .region id _ _=>id
 | .seq a _=>Zdy a
 | .block _ b=>Zdy b
 | .scope b=>Zdy b
 |_=>0
def ZeI (k:Option (List Nat×Bool)) (c:Cx) (s:St):Option St:=
 match k with
 |none=>some s
 |some (ks,comp)=>if comp then(if c.base=0 then Zeb (Zl3 s.tm ks) s.hp else none)else some ⟨Zl3 s.tm ks,s.hp⟩
def ZiM (tm:List (Nat×PV)) (H:List Mem):ResultVar→Option PV
 | .tmp t=>get tm t
 | .cell a t=>(get tm a).bind fun p=>ZbF P H t p
def Zbw:List PV→PV
 | [v]=>v
 |vs=> .tup vs
def step:Ev where
 ex:=fun c code s=>match code with
  | .skip=>some (.normal,s)
  | .label _=>some (.normal,s)
  | .region id ops _=>(Zps P h E c.N (h.light c.fid id) (rgo (h.perm c.fid id) ops) s).map fun C=>(.normal,C)
  | .seq a b=>(E.ex c a s).bind fun(e,C)=>match e with
   | .normal=>E.ex c b C
   |e=>some (e,C)
  | .cond x a b=>(ev s.tm x).bind fun v=>match v with
   | .bool t=>E.ex c (if t then a else b) s
   |_=>none
  | .block id b=>(E.ex c b s).bind fun(e,C)=>match e with
   | .exit j=>if j=id then(ZeI (h.keepB c.fid id) c C).map fun I=>(.normal,I)else some (.exit j,C)
   | .normal=>(ZeI (h.keepB c.fid id) c C).map fun I=>(.normal,I)
   | .ret=>some (.ret,C)
  | .loop b=>(ZeI (h.keep c.fid (Zdy b)) c s).bind fun J=>(E.ex c b J).bind fun(e,C)=>match e with
   | .normal=>E.ex c (.loop b) C
   |e=>some (e,C)
  | .exit id=>some (.exit id,s)
  | .ret=>some (.ret,s)
  |_=>none
 rn:=fun f args H=>
  if h.ok f then
  match P.funcs[f]? with
  |some fn=>match fn.body with
   |some code=>if args.length≤fn.ntmps then
    (E.ex ⟨f,H.length,fn.ntmps⟩ code ⟨Zbq 0 args,H⟩).bind fun(e,s)=>match e with
    | .exit _=>none
    |_=>(ZaV (ZiM P s.tm s.hp) fn.results.toList).map fun vs=>(Zbw vs,s.hp)
    else none
   |none=>none
  |none=>none
  else none
end
def bot:Ev where
 ex:=fun _ _ _=>none
 rn:=fun _ _ _=>none
def Zdb (P:Program) (h:Hints) (n:Nat):Ev:=
 Nat.rec bot (fun _ j=>step P h j) n
open Go.RowKit
structure Loc where
 b:Nat
 o:Nat
 z:Nat
 top:Nat
abbrev Phi:=Nat→Option Loc
def Zcr:PV→Bool
 | .agg _| .tup _=>false
 |_=>true
section
variable (w : World) (S : Nat → Prop)
mutual
def IRel:PV→Value→Prop
 | .bool b,v=>v= .bool b
 | .int k n,v=>v= .int k n
 | .str s,v=>v= .string s
 | .nilp,v=>v= .pointer none
 | .nils,v=>v= .slice none 0 0
 | .nilf,v=>v= .nilFunc
 | .nilm,v=>v= .map none
 | .nili,v=>v= .nilIface
 | .ifc t x,v=>v= .iface t x.val
 | .ptr _ _ _,_=>False
 | .ref _ _ _ _,_=>False
 | .map _,_=>False
 | .lst es,v=> ∃a c,v= .slice (some a) es.length c∧es.length≤c∧(es=[]∨ ∃b o z,a=⟨b,o,none⟩∧S b∧(∀x∈es,x.length=z)∧EsRel es b o)
 | .box cs r,v=> ∃b o,v= .pointer (some ⟨b,o+r,none⟩)∧S b∧CsRel cs b o
 | .func f first j,v=> ∃C cs,v= .func (.func f) C cs∧LRel first C.toList∧LRel j cs.toList
 | .agg cs,v=> ∃arr,v= .agg arr∧(∀c∈cs,Zcr c=true)∧LRel cs arr.toList
 | .tup vs,v=> ∃arr,v= .tuple arr∧LRel vs arr.toList
def CsRel:List PV→Nat→Nat→Prop
 | [],_,_=>True
 |p::ps,b,o=>(Zcr p=true∧ ∃v,w.cell? ⟨b,o,none⟩=some v∧IRel p v)∧CsRel ps b (o+1)
def EsRel:List (List PV)→Nat→Nat→Prop
 | [],_,_=>True
 |c::cs,b,o=>CsRel c b o∧EsRel cs b (o+c.length)
def LRel:List PV→List Value→Prop
 | [],vs=>vs=[]
 |p::ps,vs=> ∃v r,vs=v::r∧IRel p v∧LRel ps r
end
end
section
variable {w w' : World} {S S' : Nat → Prop}
theorem ZfY {b:Nat} (h:w'.heap[b]? =w.heap[b]?) (o:Nat):w'.cell? ⟨b,o,none⟩=w.cell? ⟨b,o,none⟩:=by simp[World.cell?,h]
mutual
theorem IRel.mono (j: ∀b,S b→S' b∧w'.heap[b]? =w.heap[b]?): ∀ (p:PV) (v:Value),IRel w S p v→IRel w' S' p v
 | .bool _,_,h| .int _ _,_,h| .str _,_,h| .nilp,_,h| .nils,_,h| .nilf,_,h| .nilm,_,h| .nili,_,h| .ifc _ _,_,h=>by simpa only[IRel]using h
 | .ptr _ _ _,_,h| .ref _ _ _ _,_,h| .map _,_,h=>by simp only[IRel]at h
 | .lst es,v,h=>by
  simp only[IRel]at h⊢
  obtain⟨a,c,C,I,J⟩:=h
  refine⟨a,c,C,I, ?_⟩
  rcases J with J|⟨b,o,z,U,R,hz,he⟩
  ·exact .inl J
  ·exact .inr ⟨b,o,z,U,(j b R).1,hz,EsRel.mono j es b o (j b R).2 he⟩
 | .box cs r,v,h=>by
  simp only[IRel]at h⊢
  obtain⟨b,o,C,R,hc⟩:=h
  exact⟨b,o,C,(j b R).1,CsRel.mono j cs b o (j b R).2 hc⟩
 | .func f a c,v,h=>by
  simp only[IRel]at h⊢
  obtain⟨fs,cs,C,I,J⟩:=h
  exact⟨fs,cs,C,LRel.mono j a _ I,LRel.mono j c _ J⟩
 | .agg cs,v,h=>by
  simp only[IRel]at h⊢
  obtain⟨arr,C,h0,I⟩:=h
  exact⟨arr,C,h0,LRel.mono j cs _ I⟩
 | .tup cs,v,h=>by
  simp only[IRel]at h⊢
  obtain⟨arr,C,I⟩:=h
  exact⟨arr,C,LRel.mono j cs _ I⟩
theorem CsRel.mono (j: ∀b,S b→S' b∧w'.heap[b]? =w.heap[b]?): ∀ (l:List PV) (b o:Nat),w'.heap[b]? =w.heap[b]?→CsRel w S l b o→CsRel w' S' l b o
 | [],_,_,_,_=>by simp only[CsRel]
 |p::ps,b,o,C,h=>by
  simp only[CsRel]at h⊢
  obtain⟨⟨I,v,J,hp⟩,R⟩:=h
  exact⟨⟨I,v,by rw[ZfY C];exact J,IRel.mono j p v hp⟩,CsRel.mono j ps b (o+1) C R⟩
theorem EsRel.mono (j: ∀b,S b→S' b∧w'.heap[b]? =w.heap[b]?): ∀ (l:List (List PV)) (b o:Nat),w'.heap[b]? =w.heap[b]?→EsRel w S l b o→EsRel w' S' l b o
 | [],_,_,_,_=>by simp only[EsRel]
 |c::cs,b,o,C,h=>by
  simp only[EsRel]at h⊢
  exact⟨CsRel.mono j c b o C h.1,EsRel.mono j cs b _ C h.2⟩
theorem LRel.mono (j: ∀b,S b→S' b∧w'.heap[b]? =w.heap[b]?): ∀ (l:List PV) (vs:List Value),LRel w S l vs→LRel w' S' l vs
 | [],_,h=>by simpa only[LRel]using h
 |p::ps,vs,h=>by
  simp only[LRel]at h⊢
  obtain⟨v,r,C,I,J⟩:=h
  exact⟨v,r,C,IRel.mono j p v I,LRel.mono j ps r J⟩
end
end
section
variable (φ : Phi) (w : World) (S : Nat → Prop)
mutual
def VRel:PV→Value→Prop
 | .ptr id i r,v=> ∃l,φ id=some l∧v= .pointer (some ⟨l.b,l.o+i*l.z+r,none⟩)
 | .ref id i n m,v=> ∃l a c,φ id=some l∧v= .slice (some a) n c∧n≤m∧m≤c∧((n=0∧c=0)∨(a=⟨l.b,l.o+i*l.z,none⟩∧(i+c)*l.z≤l.top))
 | .map id,v=> ∃l,φ id=some l∧v= .map (some l.b)
 | .func f first j,v=> ∃C cs,v= .func (.func f) C cs∧VL first C.toList∧VL j cs.toList
 | .agg cs,v=> ∃arr,v= .agg arr∧(∀c∈cs,Zcr c=true)∧VL cs arr.toList
 | .tup vs,v=> ∃arr,v= .tuple arr∧VL vs arr.toList
 | .bool b,v=>v= .bool b
 | .int k n,v=>v= .int k n
 | .str s,v=>v= .string s
 | .nilp,v=>v= .pointer none
 | .nils,v=>v= .slice none 0 0
 | .nilf,v=>v= .nilFunc
 | .nilm,v=>v= .map none
 | .nili,v=>v= .nilIface
 | .ifc t x,v=>v= .iface t x.val
 | .lst es,v=>IRel w S (.lst es) v
 | .box cs r,v=>IRel w S (.box cs r) v
def VL:List PV→List Value→Prop
 | [],vs=>vs=[]
 |p::ps,vs=> ∃v r,vs=v::r∧VRel p v∧VL ps r
end
def VC:List PV→Nat→Nat→Prop
 | [],_,_=>True
 |p::ps,b,o=>(Zcr p=true∧ ∃v,w.cell? ⟨b,o,none⟩=some v∧VRel φ w S p v)∧VC ps b (o+1)
def VE:List (List PV)→Nat→Nat→Prop
 | [],_,_=>True
 |c::cs,b,o=>VC φ w S c b o∧VE cs b (o+c.length)
def VM:List (PV×PV)→List MapEntry→Prop
 | [],l=>l=[]
 |(k,v)::r,l=> ∃e j,l=e::j∧VRel φ w S k e.key∧VRel φ w S v e.val∧VM r j
end
section
variable {φ φ' : Phi} {w w' : World} {S S' : Nat → Prop}
mutual
theorem VRel.mono (hp: ∀id l,φ id=some l→φ' id=some l) (I: ∀b,S b→S' b∧w'.heap[b]? =w.heap[b]?): ∀ (p:PV) (v:Value),VRel φ w S p v→VRel φ' w' S' p v
 | .bool _,_,h| .int _ _,_,h| .str _,_,h| .nilp,_,h| .nils,_,h| .nilf,_,h| .nilm,_,h| .nili,_,h| .ifc _ _,_,h=>by simpa only[VRel]using h
 | .ptr _ _ _,_,h=>by
  simp only[VRel]at h⊢
  obtain⟨l,j,C⟩:=h
  exact⟨l,hp _ _ j,C⟩
 | .ref _ _ _ _,_,h=>by
  simp only[VRel]at h⊢
  obtain⟨l,a,c,j,C⟩:=h
  exact⟨l,a,c,hp _ _ j,C⟩
 | .map _,_,h=>by
  simp only[VRel]at h⊢
  obtain⟨l,j,C⟩:=h
  exact⟨l,hp _ _ j,C⟩
 | .lst es,v,h=>by simp only[VRel]at h⊢;exact IRel.mono I _ _ h
 | .box cs r,v,h=>by simp only[VRel]at h⊢;exact IRel.mono I _ _ h
 | .func f a c,v,h=>by
  simp only[VRel]at h⊢
  obtain⟨J,cs,j,C,R⟩:=h
  exact⟨J,cs,j,VL.mono hp I a _ C,VL.mono hp I c _ R⟩
 | .agg cs,v,h=>by
  simp only[VRel]at h⊢
  obtain⟨arr,j,U,C⟩:=h
  exact⟨arr,j,U,VL.mono hp I cs _ C⟩
 | .tup cs,v,h=>by
  simp only[VRel]at h⊢
  obtain⟨arr,j,C⟩:=h
  exact⟨arr,j,VL.mono hp I cs _ C⟩
theorem VL.mono (hp: ∀id l,φ id=some l→φ' id=some l) (j: ∀b,S b→S' b∧w'.heap[b]? =w.heap[b]?): ∀ (l:List PV) (vs:List Value),VL φ w S l vs→VL φ' w' S' l vs
 | [],_,h=>by simpa only[VL]using h
 |p::ps,vs,h=>by
  simp only[VL]at h⊢
  obtain⟨v,r,C,I,J⟩:=h
  exact⟨v,r,C,VRel.mono hp j p v I,VL.mono hp j ps r J⟩
end
theorem VC.mono (hp: ∀id l,φ id=some l→φ' id=some l) (j: ∀b,S b→S' b∧w'.heap[b]? =w.heap[b]?): ∀ (l:List PV) (b o:Nat),w'.heap[b]? =w.heap[b]?→VC φ w S l b o→VC φ' w' S' l b o
 | [],_,_,_,_=>trivial
 |p::ps,b,o,C,h=>by
  obtain⟨⟨I,v,J,R⟩,U⟩:=h
  exact⟨⟨I,v,by rw[ZfY C];exact J,VRel.mono hp j p v R⟩,VC.mono hp j ps b (o+1) C U⟩
theorem VE.mono (hp: ∀id l,φ id=some l→φ' id=some l) (j: ∀b,S b→S' b∧w'.heap[b]? =w.heap[b]?): ∀ (l:List (List PV)) (b o:Nat),w'.heap[b]? =w.heap[b]?→VE φ w S l b o→VE φ' w' S' l b o
 | [],_,_,_,_=>trivial
 |c::cs,b,o,C,h=>⟨VC.mono hp j c b o C h.1,VE.mono hp j cs b _ C h.2⟩
theorem VM.mono (hp: ∀id l,φ id=some l→φ' id=some l) (j: ∀b,S b→S' b∧w'.heap[b]? =w.heap[b]?): ∀ (l:List (PV×PV)) (es:List MapEntry),VM φ w S l es→VM φ' w' S' l es
 | [],_,h=>h
 |(k,v)::r,es,h=>by
  obtain⟨e,C,I,J,R,U⟩:=h
  exact⟨e,C,I,VRel.mono hp j _ _ J,VRel.mono hp j _ _ R,VM.mono hp j r C U⟩
mutual
theorem IRel.toV: ∀ (p:PV) (v:Value),IRel w S p v→VRel φ w S p v
 | .bool _,_,h| .int _ _,_,h| .str _,_,h| .nilp,_,h| .nils,_,h| .nilf,_,h| .nilm,_,h| .nili,_,h| .ifc _ _,_,h=>by simpa only[VRel,IRel]using h
 | .ptr _ _ _,_,h| .ref _ _ _ _,_,h| .map _,_,h=>by simp only[IRel]at h
 | .lst es,v,h=>by simp only[VRel];exact h
 | .box cs r,v,h=>by simp only[VRel];exact h
 | .func f a c,v,h=>by
  simp only[VRel,IRel]at h⊢
  obtain⟨I,cs,j,C,J⟩:=h
  exact⟨I,cs,j,LRel.toV a _ C,LRel.toV c _ J⟩
 | .agg cs,v,h=>by
  simp only[VRel,IRel]at h⊢
  obtain⟨arr,j,R,C⟩:=h
  exact⟨arr,j,R,LRel.toV cs _ C⟩
 | .tup cs,v,h=>by
  simp only[VRel,IRel]at h⊢
  obtain⟨arr,j,C⟩:=h
  exact⟨arr,j,LRel.toV cs _ C⟩
theorem LRel.toV: ∀ (l:List PV) (vs:List Value),LRel w S l vs→VL φ w S l vs
 | [],_,h=>by simpa only[VL,LRel]using h
 |p::ps,vs,h=>by
  simp only[VL,LRel]at h⊢
  obtain⟨v,r,j,C,I⟩:=h
  exact⟨v,r,j,IRel.toV p v C,LRel.toV ps r I⟩
end
theorem CsRel.toV: ∀ (l:List PV) (b o:Nat),CsRel w S l b o→VC φ w S l b o
 | [],_,_,_=>trivial
 |p::ps,b,o,h=>by
  simp only[CsRel]at h
  obtain⟨⟨j,v,C,I⟩,J⟩:=h
  exact⟨⟨j,v,C,IRel.toV p v I⟩,CsRel.toV ps b (o+1) J⟩
theorem EsRel.toV: ∀ (l:List (List PV)) (b o:Nat),EsRel w S l b o→VE φ w S l b o
 | [],_,_,_=>trivial
 |c::cs,b,o,h=>by
  simp only[EsRel]at h
  exact⟨CsRel.toV c b o h.1,EsRel.toV cs b _ h.2⟩
theorem VL.length: ∀ {l:List PV} {vs:List Value},VL φ w S l vs→vs.length=l.length
 | [],_,h=>by simp only[VL]at h;simp[h]
 |p::ps,_,h=>by
  simp only[VL]at h
  obtain⟨v,r,rfl,_,j⟩:=h
  simp[VL.length j]
theorem VL.get: ∀ {l:List PV} {vs:List Value} {i:Nat} {p:PV},VL φ w S l vs→l[i]? =some p→ ∃v,vs[i]? =some v∧VRel φ w S p v
 | [],_,_,_,_,hi=>by simp at hi
 |q::ps,_,i,p,h,hi=>by
  simp only[VL]at h
  obtain⟨v,r,rfl,j,C⟩:=h
  cases i with
  |zero=>simp at hi;subst hi;exact⟨v,rfl,j⟩
  |succ i=>simp at hi⊢;exact VL.get C hi
theorem VL.append: ∀ {l m:List PV} {vs us:List Value},VL φ w S l vs→VL φ w S m us→VL φ w S (l++m) (vs++us)
 | [],_,_,_,h,j=>by simp only[VL]at h;subst h;simpa using j
 |p::ps,_,_,_,h,j=>by
  simp only[VL]at h
  obtain⟨v,r,rfl,C,I⟩:=h
  exact⟨v,r++_,by simp,C,VL.append I j⟩
theorem VL.split: ∀ {l m:List PV} {vs:List Value},VL φ w S (l++m) vs→ ∃a b,vs=a++b∧VL φ w S l a∧VL φ w S m b
 | [],_,vs,h=>⟨[],vs,rfl,by simp only[VL],h⟩
 |p::ps,m,vs,h=>by
  have j:VL φ w S (p::(ps++m)) vs:=h
  simp only[VL]at j
  obtain⟨v,r,rfl,C,I⟩:=j
  obtain⟨a,b,rfl,J,R⟩:=VL.split I
  exact⟨v::a,b,rfl,⟨v,a,rfl,C,J⟩,R⟩
theorem VL.take: ∀ {l:List PV} {vs:List Value} (n:Nat),VL φ w S l vs→VL φ w S (l.take n) (vs.take n)
 | [],vs,n,h=>by simp only[VL]at h;subst h;simp[VL]
 |p::ps,vs,0,_=>by simp[VL]
 |p::ps,vs,n+1,h=>by
  simp only[VL]at h
  obtain⟨v,r,rfl,j,C⟩:=h
  simp only[List.take_succ_cons,VL]
  exact⟨v,r.take n,rfl,j,VL.take n C⟩
theorem VL.drop: ∀ {l:List PV} {vs:List Value} (n:Nat),VL φ w S l vs→VL φ w S (l.drop n) (vs.drop n)
 | [],vs,n,h=>by simp only[VL]at h;subst h;simp[VL]
 |p::ps,vs,0,h=>by simpa using h
 |p::ps,vs,n+1,h=>by
  simp only[VL]at h
  obtain⟨v,r,rfl,C,j⟩:=h
  simpa using VL.drop n j
theorem VC.get: ∀ {l:List PV} {b o i:Nat} {p:PV},VC φ w S l b o→l[i]? =some p→Zcr p=true∧ ∃v,w.cell? ⟨b,o+i,none⟩=some v∧VRel φ w S p v
 | [],_,_,_,_,_,hi=>by simp at hi
 |q::ps,b,o,i,p,h,hi=>by
  obtain⟨⟨C,v,I,J⟩,R⟩:=h
  cases i with
  |zero=>simp at hi;subst hi;exact⟨C,v,I,J⟩
  |succ i=>
   simp at hi
   obtain⟨U,u,hu,j⟩:=VC.get R hi
   exact⟨U,u,by rw[←hu];congr 2;omega,j⟩
theorem VC.vals: ∀ {l:List PV} {b o:Nat},VC φ w S l b o→ ∃vs,VL φ w S l vs∧(∀c∈l,Zcr c=true)∧ ∀j v,vs[j]? =some v→w.cell? ⟨b,o+j,none⟩=some v
 | [],_,_,_=>⟨[],by simp only[VL],by simp,by simp⟩
 |p::ps,b,o,h=>by
  obtain⟨⟨I,v,J,R⟩,U⟩:=h
  obtain⟨vs,h2,h3,h4⟩:=VC.vals U
  refine⟨v::vs,⟨v,vs,rfl,R,h2⟩, ?_, ?_⟩
  ·intro c hc
   rcases Xav.1 hc with rfl|hc
   ·exact I
   ·exact h3 c hc
  ·intro j u C
   cases j with
   |zero=>simp at C;subst C;exact J
   |succ j=>simp at C;rw[←h4 j u C];congr 2;omega
theorem VC.of_vals: ∀ {l:List PV} {vs:List Value} {b o:Nat},VL φ w S l vs→(∀c∈l,Zcr c=true)→(∀j v,vs[j]? =some v→w.cell? ⟨b,o+j,none⟩=some v)→VC φ w S l b o
 | [],_,_,_,_,_,_=>trivial
 |p::ps,vs,b,o,h,C,I=>by
  simp only[VL]at h
  obtain⟨v,r,rfl,J,R⟩:=h
  exact⟨⟨C p Xah,v,by simpa using I 0 v rfl,J⟩,VC.of_vals R (fun c hm=>C c (Xai _ hm)) fun j u U=>by rw[←I (j+1) u (by simpa using U)];congr 2;omega⟩
theorem ZoJ {p:PV} {v:Value} (h:Zcr p=true) (j:VRel φ w S p v):v.oneCell'=true:=by
 cases p<;>simp only[VRel,IRel,Zcr]at h j<;>first
  |(subst j;rfl)
  |(obtain⟨l,_,rfl⟩:=j;rfl)
  |(obtain⟨l,a,c,_,rfl,_⟩:=j;rfl)
  |(obtain⟨a,c,rfl,_⟩:=j;rfl)
  |(obtain⟨a,c,rfl,_⟩:=j;rfl)
  |(simp at h;done)
theorem VC.append: ∀ {l m:List PV} {b o:Nat},VC φ w S l b o→VC φ w S m b (o+l.length)→VC φ w S (l++m) b o
 | [],_,_,_,_,j=>by simpa using j
 |p::ps,m,b,o,h,j=>⟨h.1,VC.append h.2 (by rw[show o+1+ps.length=o+(p::ps).length from by simp;omega];exact j)⟩
theorem VC.left: ∀ {l m:List PV} {b o:Nat},VC φ w S (l++m) b o→VC φ w S l b o
 | [],_,_,_,_=>trivial
 |_::_,_,_,_,h=>⟨h.1,VC.left h.2⟩
theorem VC.right: ∀ {l m:List PV} {b o:Nat},VC φ w S (l++m) b o→VC φ w S m b (o+l.length)
 | [],_,_,_,h=>by simpa using h
 |p::ps,_,_,o,h=>by
  have:=VC.right (l:=ps) h.2
  rw[show o+(p::ps).length=o+1+ps.length from by simp;omega];exact this
theorem VE.flat: ∀ {l:List (List PV)} {b o:Nat},VE φ w S l b o→VC φ w S l.flatten b o
 | [],_,_,_=>trivial
 |c::cs,b,o,h=>by
  rw[XbK];exact VC.append h.1 (VE.flat h.2)
theorem VE.of_flat: ∀ {l:List (List PV)} {b o:Nat},VC φ w S l.flatten b o→VE φ w S l b o
 | [],_,_,_=>trivial
 |c::cs,b,o,h=>by
  rw[XbK]at h
  exact⟨VC.left h,VE.of_flat (VC.right h)⟩
theorem VE.append: ∀ {l m:List (List PV)} {b o z:Nat},(∀c∈l,c.length=z)→VE φ w S l b o→VE φ w S m b (o+l.length*z)→VE φ w S (l++m) b o
 | [],_,_,_,_,_,_,j=>by simpa using j
 |p::ps,m,b,o,z,C,h,j=>by
  refine⟨h.1,VE.append (fun c I=>C c (Xai _ I)) h.2 ?_⟩
  have:p.length=z:=C p Xah
  rw[show o+p.length+ps.length*z=o+(p::ps).length*z from by simp[this,Xa4];omega];exact j
theorem VE.left: ∀ {l m:List (List PV)} {b o:Nat},VE φ w S (l++m) b o→VE φ w S l b o
 | [],_,_,_,_=>trivial
 |_::_,_,_,_,h=>⟨h.1,VE.left h.2⟩
theorem VE.right: ∀ {l m:List (List PV)} {b o z:Nat},(∀c∈l,c.length=z)→VE φ w S (l++m) b o→VE φ w S m b (o+l.length*z)
 | [],_,_,_,_,_,h=>by simpa using h
 |p::ps,_,_,o,z,j,h=>by
  have:=VE.right (l:=ps) (fun c C=>j c (Xai _ C)) h.2
  have hp:p.length=z:=j p Xah
  rw[show o+(p::ps).length*z=o+p.length+ps.length*z from by simp[hp,Xa4];omega];exact this
theorem VE.get {l:List (List PV)} {b o z i:Nat} {c:List PV} (C: ∀c∈l,c.length=z) (h:VE φ w S l b o) (hi:l[i]? =some c):VC φ w S c b (o+i*z):=by
 have I:i<l.length:=(Xae.1 hi).1
 have j:l=l.take i++(c::l.drop (i+1)):=by
  have:=Xae.1 hi
  rw[←this.2];simp
 rw[j]at h
 have:=VE.right (z:=z) (fun c J=>C c (XaH J)) h
 rw[Xas,XaL (by omega)]at this
 exact this.1
end
def Mem.alive:Mem→Bool
 | .dead=>false
 |_=>true
structure RowAt (φ:Phi) (w:World) (S:Nat→Prop) (l:Loc) (es:List (List PV)) (z:Nat) (m:Bool):Prop where
 zs:l.z=z
 top:es.length*z≤l.top
 wid: ∀c∈es,c.length=z
 cells:VE φ w S es l.b l.o
 blk: ∃cur e fz,w.heap[l.b]? =some (.cells cur e fz)∧l.o+l.top≤cur.size∧(m=true→ ∀j,j<cur.size→w.frozen? ⟨l.b,j,none⟩=false)
 own:m=true→ ¬S l.b
 frz:m=false→S l.b
def VMc (φ:Phi) (w:World) (S:Nat→Prop) (es:List (PV×PV)) (l:List MapEntry) (clock:Nat):Prop:=VM φ w S es l∧ ∀e∈l,e.born<clock
theorem VMc.mono {φ φ':Phi} {w w':World} {S S':Nat→Prop} (hp: ∀id l,φ id=some l→φ' id=some l) (j: ∀b,S b→S' b∧w'.heap[b]? =w.heap[b]?) {es:List (PV×PV)} {l:List MapEntry} {clock:Nat} (h:VMc φ w S es l clock):VMc φ' w' S' es l clock:=
 ⟨VM.mono hp j _ _ h.1,h.2⟩
class Laid where
 ok:(Nat→Prop)→World→Prop
 mono: ∀S w S' w',(∀b,S b→S' b∧w'.heap[b]? =w.heap[b]?)→ok S w→ok S' w'
instance (priority:=low) Laid.nothing:Laid:=⟨fun _ _=>True,fun _ _ _ _ _ _=>trivial⟩
structure Inv [Laid] (φ:Phi) (H:List Mem) (w:World) (S:Nat→Prop) (B:Nat):Prop where
 live: ∀id l,φ id=some l→B≤l.b∧l.b<w.heap.size∧id<H.length
 row: ∀id l es z m,φ id=some l→H[id]? =some (.row es z m)→RowAt φ w S l es z m
 map: ∀id l es,φ id=some l→H[id]? =some (.map es)→ ¬S l.b∧ ∃ents clock,w.heap[l.b]? =some (.map ents clock)∧VMc φ w S es ents.toList clock
 apart: ∀id id' l l' m m',id≠id'→φ id=some l→φ id'=some l'→H[id]? =some m→H[id']? =some m'→m.alive=true→m'.alive=true→l.b≠l'.b
 stable: ∀b,S b→b<w.heap.size
 base:B≤w.heap.size
 laid:Laid.ok S w
variable [Laid]
structure Evo (k B:Nat) (φ:Phi) (S:Nat→Prop) (w:World) (φ':Phi) (S':Nat→Prop) (w':World):Prop where
 phi: ∀id l,id<k→φ id=some l→φ' id=some l
 st: ∀b,S b→S' b∧w'.heap[b]? =w.heap[b]?
 old: ∀b,b<B→S' b→S b
 below:Below B w w'
theorem Evo.refl (k B:Nat) (φ:Phi) (S:Nat→Prop) (w:World):Evo k B φ S w φ S w:=
 ⟨fun _ _ _ h=>h,fun _ h=>⟨h,rfl⟩,fun _ _ h=>h,Below.refl _ _⟩
theorem Evo.trans {k B:Nat} {φ φ' j:Phi} {S S' I:Nat→Prop} {w w' J:World} (h:Evo k B φ S w φ' S' w') (R:Evo k B φ' S' w' j I J):Evo k B φ S w j I J:=
 ⟨fun id l U hl=>R.phi id l U (h.phi id l U hl),fun b C=>⟨(R.st b (h.st b C).1).1,((R.st b (h.st b C).1).2).trans (h.st b C).2⟩,fun b C hs=>h.old b C (R.old b C hs),h.below.trans R.below⟩
theorem Evo.mono {k j B:Nat} {φ φ':Phi} {S S':Nat→Prop} {w w':World} (h:Evo k B φ S w φ' S' w') (I:j≤k):Evo j B φ S w φ' S' w':=
 ⟨fun id l hi C=>h.phi id l (by omega) C,h.st,h.old,h.below⟩
theorem VRel.evo {k B:Nat} {φ φ':Phi} {S S':Nat→Prop} {w w':World} {H:List Mem} {p:PV} {v:Value} (C:VRel φ w S p v) (h:Evo k B φ S w φ' S' w') (hi:Inv φ H w S B) (I:H.length≤k):VRel φ' w' S' p v:=
 VRel.mono (fun id l j=>h.phi id l (by have:=(hi.live id l j).2.2;omega) j) h.st p v C
theorem VL.evo {k B:Nat} {φ φ':Phi} {S S':Nat→Prop} {w w':World} {H:List Mem} {p:List PV} {v:List Value} (C:VL φ w S p v) (h:Evo k B φ S w φ' S' w') (hi:Inv φ H w S B) (I:H.length≤k):VL φ' w' S' p v:=
 VL.mono (fun id l j=>h.phi id l (by have:=(hi.live id l j).2.2;omega) j) h.st p v C
variable [Laid]
open Go.RowKit
section
variable {P : Program} {w : World}
theorem ZgD {t:TypeId} {b:Bool} (h:Zq1 P t=some b):(isAgg t).run P w= .ok b w:=by
 unfold Zq1 at h
 unfold isAgg
 cases hu:P.underlying t with
 |none=>simp[hu]at h
 |some d=>simp only[Sem.run_bind,run_underlying hu,Result.andThen_ok];cases d<;>simp_all
theorem ZaH {t:TypeId} {n:Nat} (h:Za1 P t=some n):(sizeOf t).run P w= .ok n w:=by
 unfold Za1 at h
 cases hi:P.info? t with
 |none=>simp[hi]at h
 |some i=>simp[hi]at h;simp[sizeOf,typeInfo,hi,h]
theorem Zf3 {α:Type}: ∀ (s:Sem α) (a:α),ZaY P s=some a→ ∀w,s.run P w= .ok a w
 | .pure a,b,h,w=>by simp[ZaY]at h;subst h;rfl
 | .program k,b,h,w=>by simp[ZaY]at h;exact Zf3 (k P) b h w
 | .load ..,_,h,_| .store ..,_,h,_| .new ..,_,h,_| .shape ..,_,h,_| .freeze ..,_,h,_| .frozen ..,_,h,_| .getObj ..,_,h,_| .setObj ..,_,h,_| .choose ..,_,h,_| .sys ..,_,h,_| .mark ..,_,h,_| .halt ..,_,h,_=>by simp[ZaY]at h
theorem Zb6 {α β:Type} (f:α→Option β):ZaV f []=some []:=rfl
theorem ZgB {α β:Type} (f:α→Option β) (a:α) (r:List α):ZaV f (a::r)=(f a).bind fun b=>(ZaV f r).bind fun s=>some (b::s):=rfl
theorem ZnR {α β j:Type} {x:Option α} {y:Option β} {f:α→β→Option j} {r:j} (h:(x.bind fun a=>y.bind fun b=>f a b)=some r): ∃a b,x=some a∧y=some b∧f a b=some r:=by
 cases x with
 |none=>simp at h
 |some a=>cases y with
  |none=>simp at h
  |some b=>exact⟨a,b,rfl,rfl,by simpa using h⟩
theorem Zxf {α j:Type} {x:Option α} {f:α→j} {r:j} (h:x.map f=some r): ∃a,x=some a∧f a=r:=by
 cases x with
 |none=>simp at h
 |some a=>exact⟨a,rfl,by simpa using h⟩
theorem Zak {α j:Type} {x:Option α} {f:α→Option j} {r:j} (h:x.bind f=some r): ∃a,x=some a∧f a=some r:=by
 cases x with
 |none=>simp at h
 |some a=>exact⟨a,rfl,by simpa using h⟩
theorem ZaD {α β:Type} {f:α→Option β} {a:α} {r:List α} {l:List β} (h:ZaV f (a::r)=some l): ∃b s,f a=some b∧ZaV f r=some s∧l=b::s:=by
 rw[ZgB]at h
 cases j:f a with
 |none=>simp[j]at h
 |some b=>cases C:ZaV f r with
  |none=>simp[j,C]at h
  |some s=>simp[j,C]at h;exact⟨b,s,rfl,rfl,h.symm⟩
theorem Zef {α β:Type} {f:α→Option β}: ∀ {r:List α} {l:List β},ZaV f r=some l→l.length=r.length
 | [],l,h=>by simp[Zb6]at h;simp[h]
 |a::r,l,h=>by obtain⟨b,s,_,j,rfl⟩:=ZaD h;simp[Zef j]
theorem ZkA {α β:Type} {f:α→Option β}: ∀ {r:List α} {l:List β},ZaV f r=some l→ ∀b∈l,∃a∈r,f a=some b
 | [],l,h,b,hb=>by simp[Zb6]at h;subst h;simp at hb
 |a::r,l,h,b,hb=>by
  obtain⟨c,s,C,I,rfl⟩:=ZaD h
  rcases Xav.1 hb with rfl|hb
  ·exact⟨a,Xah,C⟩
  ·obtain⟨x,J,j⟩:=ZkA I b hb;exact⟨x,Xai _ J,j⟩
variable {φ : Phi} {S : Nat → Prop} {B : Nat} {H : List Mem}
theorem ZhO {v:Value} {p:PV} (h:ZfD v=some p):VRel φ w S p v∧Zcr p=true:=by
 unfold ZfD at h
 split at h<;>first|(simp at h;subst h;exact⟨by simp[VRel],rfl⟩)|simp at h
theorem Zc4: ∀ {vs:List Value} {ps:List PV},ZaV ZfD vs=some ps→VL φ w S ps vs∧ ∀c∈ps,Zcr c=true
 | [],ps,h=>by simp[Zb6]at h;subst h;exact⟨by simp only[VL],by simp⟩
 |v::vs,ps,h=>by
  obtain⟨b,s,j,C,rfl⟩:=ZaD h
  obtain⟨I,J⟩:=Zc4 C
  obtain⟨R,U⟩:=ZhO (φ:=φ) (w:=w) (S:=S) j
  refine⟨⟨v,vs,rfl,R,I⟩, ?_⟩
  intro c hc
  rcases Xav.1 hc with rfl|hc
  ·exact U
  ·exact J c hc
theorem ZiO {v:Value} {p:PV} (h:Znl v=some p):VRel φ w S p v:=by
 unfold Znl at h
 split at h
 ·rename_i cs
  cases j:ZaV ZfD cs.toList with
  |none=>simp[j]at h
  |some ps=>
   simp[j]at h;subst h
   obtain⟨C,I⟩:=Zc4 (φ:=φ) (w:=w) (S:=S) j
   simp only[VRel]
   exact⟨cs,rfl,I,C⟩
 ·exact(ZhO h).1
theorem Zq3 {p:PV} {v u:Value} (h:ZiR p=some v) (j:VRel φ w S p u):u=v:=by
 cases p<;>simp[ZiR]at h<;>simp only[VRel]at j<;>rw[j,h]
theorem Zhl: ∀ {ps:List PV} {vs us:List Value},ZaV ZiR ps=some vs→VL φ w S ps us→us=vs
 | [],vs,us,h,j=>by simp[Zb6]at h;simp only[VL]at j;subst h;exact j
 |p::ps,vs,us,h,j=>by
  obtain⟨b,s,C,I,rfl⟩:=ZaD h
  simp only[VL]at j
  obtain⟨v,r,rfl,J,R⟩:=j
  rw[Zq3 C J,Zhl I R]
def TRel (φ:Phi) (w:World) (S:Nat→Prop) (N:Nat) (tm:List (Nat×PV)) (a:Act):Prop:=
 a.tmps.size=N∧a.defers=[]∧ ∀i p,get tm i=some p→i<N∧VRel φ w S p (a.tmps.getD i undef)
theorem ZlB (i:Nat):get [] i=none:=rfl
theorem Zb7 (j:Nat) (v:PV) (r:List (Nat×PV)) (i:Nat):get ((j,v)::r) i=if i=j then some v else get r i:=by
 show(bif Nat.beq i j then some v else get r i)=_
 by_cases h:i=j
 ·simp[h]
 ·have:Nat.beq i j=false:=by
   cases C:Nat.beq i j with
   |false=>rfl
   |true=>exact absurd (Xam C) h
  simp[h,this]
theorem ZaA {tm:List (Nat×PV)} {a:Act} {N:Nat} (j:TRel φ w S N tm a) {x:Operand} {p:PV} (h:ev tm x=some p):VRel φ w S p (a.eval x):=by
 cases x with
 |tmp t=>exact(j.2.2 t p h).2
 |const v=>exact ZiO h
 |global g=>simp[ev]at h
 |func f=>simp[ev]at h;subst h;simp only[VRel,Act.eval];exact⟨#[], #[],rfl,by simp only[VL],by simp only[VL]⟩
theorem Zb4 {tm:List (Nat×PV)} {a:Act} {N:Nat} (j:TRel φ w S N tm a): ∀ {xs:List Operand} {ps:List PV},ZaV (ev tm) xs=some ps→VL φ w S ps (xs.map a.eval)
 | [],ps,h=>by simp[Zb6]at h;subst h;simp only[VL,Xa3]
 |x::xs,ps,h=>by
  obtain⟨b,s,C,I,rfl⟩:=ZaD h
  exact⟨_,_,rfl,ZaA j C,Zb4 j I⟩
theorem Zi9 {α:Type} {c:Prop} [Decidable c] {x:Option α} {p:α} (h:(if c then none else x)=some p): ¬c∧x=some p:=by
 by_cases j:c
 ·rw[if_pos j]at h;cases h
 ·rw[if_neg j]at h;exact⟨j,h⟩
theorem Zar {α:Type} {c:Prop} [Decidable c] {x:Option α} {p:α} (h:(if c then x else none)=some p):c∧x=some p:=by
 by_cases j:c
 ·rw[if_pos j]at h;exact⟨j,h⟩
 ·rw[if_neg j]at h;cases h
theorem Zbj (k:IntKind) (n:Int):VRel φ w S (.int k n) (.int k n):=by simp only[VRel]
theorem Zd0 (b:Bool):VRel φ w S (.bool b) (.bool b):=by simp only[VRel]
theorem Zf1 (s:ByteArray):VRel φ w S (.str s) (.string s):=by simp only[VRel]
theorem Zmn {op:BinOp} {t:TypeId} {k J:IntKind} {a b:Int} {p:PV} (h:ZiW op k a J b=some p): ∃u,(binOp op t (.int k a) (.int J b)).run P w= .ok u w∧VRel φ w S p u:=by
 cases op<;>simp only[ZiW]at h<;>first
  |(obtain⟨C,j⟩:=Zar h;subst C;obtain⟨I,R⟩:=Zi9 j;cases R;refine⟨_, ?_,Zbj _ _⟩;simp only[binOp,Op.intDiv,ne_eq,not_true_eq_false,if_false,I];rfl)
  |(obtain⟨C,j⟩:=Zar h;subst C;cases j;refine⟨_, ?_,Zbj _ _⟩;simp only[binOp,Op.intArith,Op.intBits,Op.intCmp,ne_eq,not_true_eq_false,if_false];rfl)
  |(obtain⟨C,j⟩:=Zar h;subst C;cases j;refine⟨_, ?_,Zd0 _⟩;simp only[binOp,Op.intArith,Op.intBits,Op.intCmp,ne_eq,not_true_eq_false,if_false];rfl)
  |(obtain⟨I,j⟩:=Zi9 h;cases j;refine⟨_, ?_,Zbj _ _⟩;simp only[binOp,Op.shift,I,if_false];rfl)
theorem ZqO (k s:ByteArray):(k.data.toList==s.data.toList)=(k==s):=by
 cases k with
 |mk x=>
  cases s with
  |mk y=>
   show(x.toList==y.toList)=(x==y)
   rw[Xbh,beq_iff_eq,beq_iff_eq]
   exact⟨fun h=>Array.ext' h,fun h=>by rw[h]⟩
theorem ZlS {op:BinOp} {t:TypeId} {a b:ByteArray} {p:PV} (h:ZmS op a b=some p): ∃u,(binOp op t (.string a) (.string b)).run P w= .ok u w∧VRel φ w S p u:=by
 simp only[ZmS,←ByteArray.toList_eq]at h
 cases op<;>simp only[]at h<;>first
  |(cases h;done)
  |(cases h;exact⟨_,rfl,Zd0 _⟩)
  |(obtain⟨hle,h⟩:=Zar h
    cases h
    refine⟨_, ?_,Zf1 _⟩
    have hm:IntKind.i64.max=9223372036854775807:=rfl
    show(if((a.size+b.size:Nat):Int)>IntKind.i64.max then _ else _:Sem Value).run P w=_
    rw[if_neg (by rw[hm];omega)]
    rfl)
theorem ZmT {t:TypeId} (h:ZkL P t=true):P.underlying t=some .bool:=by
 unfold ZkL at h
 split at h
 ·assumption
 ·simp at h
theorem ZfP {t:TypeId} (h:Zhu P t=true): ∃e,P.underlying t=some (.pointer e):=by
 unfold Zhu at h
 split at h
 ·exact⟨_,by assumption⟩
 ·simp at h
theorem Zee {t:TypeId} (h:ZcC P t=true): ∃e,P.underlying t=some (.slice e):=by
 unfold ZcC at h
 split at h
 ·exact⟨_,by assumption⟩
 ·simp at h
theorem Zbv {op:BinOp} {t:TypeId} {a b:Value} {r:Bool} {p:PV} (h:Zok op r=some p) (C: ∀j:BinOp,(j= .eql∨j= .neq)→binOp j t a b=(match j with
 | .eql=>(do pure (.bool (←Op.equal t a b)):Sem Value)|_=>(do pure (.bool (!(←Op.equal t a b))):Sem Value))) (he:(Op.equal t a b).run P w= .ok r w): ∃u,(binOp op t a b).run P w= .ok u w∧VRel φ w S p u:=by
 unfold Zok at h
 split at h
 ·simp at h;subst h
  rw[C .eql (.inl rfl)]
  exact⟨.bool r,by simp[he],by simp only[VRel]⟩
 ·simp at h;subst h
  rw[C .neq (.inr rfl)]
  exact⟨.bool (!r),by simp[he],by simp only[VRel]⟩
 ·simp at h
theorem ZaM {op:BinOp} {t:TypeId} {x y:Operand} {a b:Value} (h: ∀cs ds,¬ (a= .agg cs∧b= .agg ds)) (j: ¬ (a= .nilIface∧b= .nilIface)):(eqGuard op t x y a b).run P w= .ok () w:=by
 cases op<;>first
  |rfl
  |(simp only[eqGuard,Bool.not_true,XaG,if_false]
    split
    ·exact absurd ⟨rfl,rfl⟩ j
    ·exact absurd ⟨rfl,rfl⟩ (h _ _)
    ·rfl)
theorem Zns {op:BinOp} {t:TypeId} {x y p:PV} {X Y:Operand} {a b:Value} (h:Zgs P op t x y=some p) (j:VRel φ w S x a) (C:VRel φ w S y b):
 ∃u,(do eqGuard op t X Y a b;binOp op t a b:Sem Value).run P w= .ok u w∧VRel φ w S p u:=by
 have guard:((eqGuard op t X Y a b).run P w= .ok () w)→(∃u,(binOp op t a b).run P w= .ok u w∧VRel φ w S p u)→ ∃u,(do eqGuard op t X Y a b;binOp op t a b:Sem Value).run P w= .ok u w∧VRel φ w S p u:=by
  rintro hg ⟨u,R,U⟩
  exact⟨u,by simp[hg,R],U⟩
 unfold Zgs at h
 split at h
 ·simp only[VRel]at j C;subst j;subst C
  exact guard (ZaM (by simp) (by simp)) (Zmn h)
 ·simp only[VRel]at j C;subst j;subst C
  exact guard (ZaM (by simp) (by simp)) (ZlS h)
 ·rename_i c d
  simp only[VRel]at j C;subst j;subst C
  split at h
  ·rename_i J
   have hu:=ZmT J
   refine guard (ZaM (by simp) (by simp)) (Zbv h ?_ ?_)
   ·rintro I (rfl|rfl)<;>rfl
   ·show(Op.equalIn (9999+1) t _ _).run P w=_
    rw[Op.equalIn]
    simp[run_underlying hu]
  ·simp at h
 ·rename_i xs ys
  simp only[VRel]at j C
  obtain⟨ax,rfl,_,aa⟩:=j
  obtain⟨ay,rfl,_,ab⟩:=C
  cases he:Zp1 P t xs ys with
  |none=>simp[he]at h
  |some r=>
   simp[he]at h
   unfold Zp1 at he
   cases R:ZaV ZiR xs with
   |none=>simp[R]at he
   |some as=>
    cases U:ZaV ZiR ys with
    |none=>simp[R,U]at he
    |some bs=>
     simp[R,U]at he
     obtain⟨hg,he⟩:=he
     have e1:ax=as.toArray:=by have:=Zhl R aa;rw[←this]
     have e2:ay=bs.toArray:=by have:=Zhl U ab;rw[←this]
     subst e1;subst e2
     refine guard ?_ (Zbv h ?_ (Zf3 _ _ he w))
     ·cases op<;>first
       |rfl
       |(simp[eqGuard,hg])
     ·rintro I (rfl|rfl)<;>rfl
 ·simp only[VRel]at j C;subst j;subst C
  split at h
  ·rename_i J
   obtain⟨e,hu⟩:=Zee J
   refine guard (ZaM (by simp) (by simp)) (Zbv h ?_ ?_)
   ·rintro I (rfl|rfl)<;>rfl
   ·show(Op.equalIn (9999+1) t _ _).run P w=_
    rw[Op.equalIn]
    simp[run_underlying hu]
  ·simp at h
 ·simp only[VRel]at j C
  obtain⟨l,ad,c,_,rfl,_⟩:=j
  subst C
  split at h
  ·rename_i J
   obtain⟨e,hu⟩:=Zee J
   refine guard (ZaM (by simp) (by simp)) (Zbv h ?_ ?_)
   ·rintro I (rfl|rfl)<;>rfl
   ·show(Op.equalIn (9999+1) t _ _).run P w=_
    rw[Op.equalIn]
    simp[run_underlying hu]
  ·simp at h
 ·simp only[VRel,IRel]at j C
  obtain⟨ad,c,rfl,_⟩:=j
  subst C
  split at h
  ·rename_i J
   obtain⟨e,hu⟩:=Zee J
   refine guard (ZaM (by simp) (by simp)) (Zbv h ?_ ?_)
   ·rintro I (rfl|rfl)<;>rfl
   ·show(Op.equalIn (9999+1) t _ _).run P w=_
    rw[Op.equalIn]
    simp[run_underlying hu]
  ·simp at h
 ·simp only[VRel]at j C;subst j;subst C
  split at h
  ·rename_i J
   obtain⟨e,hu⟩:=ZfP J
   refine guard (ZaM (by simp) (by simp)) (Zbv h ?_ ?_)
   ·rintro I (rfl|rfl)<;>rfl
   ·show(Op.equalIn (9999+1) t _ _).run P w=_
    rw[Op.equalIn]
    simp[run_underlying hu]
  ·simp at h
 ·simp only[VRel]at j C
  obtain⟨l,_,rfl⟩:=j
  subst C
  split at h
  ·rename_i J
   obtain⟨e,hu⟩:=ZfP J
   refine guard (ZaM (by simp) (by simp)) (Zbv h ?_ ?_)
   ·rintro I (rfl|rfl)<;>rfl
   ·show(Op.equalIn (9999+1) t _ _).run P w=_
    rw[Op.equalIn]
    simp[run_underlying hu]
  ·simp at h
 ·simp only[VRel,IRel]at j C
  obtain⟨b,o,rfl,_⟩:=j
  subst C
  split at h
  ·rename_i J
   obtain⟨e,hu⟩:=ZfP J
   refine guard (ZaM (by simp) (by simp)) (Zbv h ?_ ?_)
   ·rintro I (rfl|rfl)<;>rfl
   ·show(Op.equalIn (9999+1) t _ _).run P w=_
    rw[Op.equalIn]
    simp[run_underlying hu]
  ·simp at h
 ·simp at h
theorem ZqN {op:BinOp} {t:TypeId} {y:Operand} {u v:Option PV} {p:PV} (h:ZAb P op t u v=some p):Znk P op t y u v=some p:=by
 unfold Znk;rw[h]
theorem ZtF {op:BinOp} {t:TypeId} {y:Operand}:ZyE P op t y none=none:=by
 unfold ZyE
 split<;>first|rfl|(rename_i h;cases h)
theorem ZqE {op:BinOp} {t:TypeId} {x p:PV} {X y:Operand} {a b:Value} (h:ZyE P op t y (some x)=some p) (J:VRel φ w S x a) (U:y= .const .nilIface→b= .nilIface):
 ∃u,(do eqGuard op t X y a b;binOp op t a b:Sem Value).run P w= .ok u w∧VRel φ w S p u:=by
 have j: ∀ (r:Bool),(∀C:BinOp,(C= .eql∨C= .neq)→binOp C t a .nilIface=(match C with
  | .eql=>(do pure (.bool (←Op.equal t a .nilIface)):Sem Value)|_=>(do pure (.bool (!(←Op.equal t a .nilIface))):Sem Value)))→(∀ms,P.underlying t=some (.interface ms)→(Op.equal t a .nilIface).run P w= .ok r w)→
  (eqGuard op t X (.const .nilIface) a .nilIface).run P w= .ok () w→(bif Zm2 P t then Zok op r else none)=some p→ ∃u,(do eqGuard op t X (.const .nilIface) a .nilIface;binOp op t a .nilIface:Sem Value).run P w= .ok u w∧VRel φ w S p u:=by
  intro r h1 h2 hg R
  cases hi:Zm2 P t with
  |false=>rw[hi]at R;cases R
  |true=>
   rw[hi,cond_true]at R
   unfold Zm2 at hi
   split at hi
   ·rename_i ms hu
    obtain⟨u,h4,h5⟩:=Zbv (φ:=φ) (S:=S) R h1 (h2 ms hu)
    exact⟨u,by simp[hg,h4],h5⟩
   ·cases hi
 unfold ZyE at h
 split at h
 ·rename_i I
  cases I
  rw[U rfl]
  simp only[VRel]at J
  subst J
  refine j true ?_ ?_ ?_ h
  ·rintro C (rfl|rfl)<;>rfl
  ·intro ms hu
   show(Op.equalIn (9999+1) t _ _).run P w=_
   rw[Op.equalIn]
   simp[run_underlying hu]
  ·cases op<;>cases X<;>rfl
 ·rename_i t' s I
  cases I
  rw[U rfl]
  simp only[VRel]at J
  subst J
  refine j false ?_ ?_ ?_ h
  ·rintro C (rfl|rfl)<;>rfl
  ·intro ms hu
   show(Op.equalIn (9999+1) t _ _).run P w=_
   rw[Op.equalIn]
   simp[run_underlying hu]
  ·cases op<;>rfl
 ·cases h
theorem ZqM {op:UnOp} {x p:PV} {a:Value} (h:ZAi op x=some p) (j:VRel φ w S x a): ∃u,(Op.unary op a).run P w= .ok u w∧VRel φ w S p u:=by
 unfold ZAi at h
 split at h<;>first
  |(simp at h;done)
  |(simp only[Xaf]at h;subst h;simp only[VRel]at j;subst j;exact⟨_,rfl,by simp only[VRel]⟩)
end
variable [Laid]
open Go.RowKit
section
variable {w : World} {S : Nat → Prop}
mutual
theorem VRel.toI: ∀ (p:PV) (v:Value),VRel (fun _=>none) w S p v→IRel w S p v
 | .bool _,_,h| .int _ _,_,h| .str _,_,h| .nilp,_,h| .nils,_,h| .nilf,_,h| .nilm,_,h| .nili,_,h| .ifc _ _,_,h=>by simpa only[VRel,IRel]using h
 | .ptr _ _ _,_,h=>by simp only[VRel]at h;obtain⟨l,h,_⟩:=h;cases h
 | .ref _ _ _ _,_,h=>by simp only[VRel]at h;obtain⟨l,a,c,h,_⟩:=h;cases h
 | .map _,_,h=>by simp only[VRel]at h;obtain⟨l,h,_⟩:=h;cases h
 | .lst es,v,h=>by simpa only[VRel]using h
 | .box cs r,v,h=>by simpa only[VRel]using h
 | .func f a c,v,h=>by
  simp only[VRel,IRel]at h⊢
  obtain⟨I,cs,j,C,J⟩:=h
  exact⟨I,cs,j,VL.toI a _ C,VL.toI c _ J⟩
 | .agg cs,v,h=>by
  simp only[VRel,IRel]at h⊢
  obtain⟨arr,j,R,C⟩:=h
  exact⟨arr,j,R,VL.toI cs _ C⟩
 | .tup cs,v,h=>by
  simp only[VRel,IRel]at h⊢
  obtain⟨arr,j,C⟩:=h
  exact⟨arr,j,VL.toI cs _ C⟩
theorem VL.toI: ∀ (l:List PV) (vs:List Value),VL (fun _=>none) w S l vs→LRel w S l vs
 | [],_,h=>by simpa only[VL,LRel]using h
 |p::ps,vs,h=>by
  simp only[VL,LRel]at h⊢
  obtain⟨v,r,j,C,I⟩:=h
  exact⟨v,r,j,VRel.toI p v C,VL.toI ps r I⟩
end
theorem VC.toI: ∀ (l:List PV) (b o:Nat),VC (fun _=>none) w S l b o→CsRel w S l b o
 | [],_,_,_=>by simp only[CsRel]
 |p::ps,b,o,h=>by
  obtain⟨⟨j,v,C,I⟩,J⟩:=h
  simp only[CsRel]
  exact⟨⟨j,v,C,VRel.toI p v I⟩,VC.toI ps b (o+1) J⟩
theorem VE.toI: ∀ (l:List (List PV)) (b o:Nat),VE (fun _=>none) w S l b o→EsRel w S l b o
 | [],_,_,_=>by simp only[EsRel]
 |c::cs,b,o,h=>by
  simp only[EsRel]
  exact⟨VC.toI c b o h.1,VE.toI cs b _ h.2⟩
theorem EsRel.get {l:List (List PV)} {b o z i:Nat} {c:List PV} (j: ∀c∈l,c.length=z) (h:EsRel w S l b o) (hi:l[i]? =some c):CsRel w S c b (o+i*z):=
 VC.toI _ _ _ (VE.get j (EsRel.toV (φ:=fun _=>none) _ _ _ h) hi)
theorem EsRel.drop {l:List (List PV)} {b o z:Nat} (n:Nat) (C: ∀c∈l,c.length=z) (I:n≤l.length) (h:EsRel w S l b o):EsRel w S (l.drop n) b (o+n*z):=by
 have j:=EsRel.toV (φ:=fun _=>none) _ _ _ h
 rw[←XaR n l]at j
 have:=VE.right (z:=z) (fun c J=>C c (XaH J)) j
 rw[Xas,XaL I]at this
 exact VE.toI _ _ _ this
theorem EsRel.take {l:List (List PV)} {b o:Nat} (n:Nat) (h:EsRel w S l b o):EsRel w S (l.take n) b o:=by
 have j:=EsRel.toV (φ:=fun _=>none) _ _ _ h
 rw[←XaR n l]at j
 exact VE.toI _ _ _ (VE.left j)
end
section
variable {P : Program} {w : World} {φ : Phi} {S : Nat → Prop} {B : Nat} {H : List Mem}
theorem VE.take {l:List (List PV)} {b o:Nat} (n:Nat) (h:VE φ w S l b o):VE φ w S (l.take n) b o:=by
 rw[←XaR n l]at h;exact VE.left h
theorem VE.drop {l:List (List PV)} {b o z:Nat} (n:Nat) (j: ∀c∈l,c.length=z) (C:n≤l.length) (h:VE φ w S l b o):VE φ w S (l.drop n) b (o+n*z):=by
 rw[←XaR n l]at h
 have:=VE.right (z:=z) (fun c I=>j c (XaH I)) h
 rwa[Xas,XaL C]at this
theorem VC.take {l:List PV} {b o:Nat} (n:Nat) (h:VC φ w S l b o):VC φ w S (l.take n) b o:=by
 rw[←XaR n l]at h;exact VC.left h
theorem VC.drop {l:List PV} {b o:Nat} (n:Nat) (j:n≤l.length) (h:VC φ w S l b o):VC φ w S (l.drop n) b (o+n):=by
 rw[←XaR n l]at h
 have:=VC.right h
 rwa[Xas,XaL j]at this
theorem Zkg {t:TypeId} {cs:List PV} {off:Nat} {p:PV} {arr:Array Value} (h:Zdd P t cs off=some p) (U: ∀c∈cs,Zcr c=true) (J:VL φ w S cs arr.toList):
 ∃u,(part t arr off).run P w= .ok u w∧VRel φ w S p u:=by
 unfold Zdd at h
 split at h
 ·rename_i j
  cases C:Za1 P t with
  |none=>simp[C]at h
  |some n=>
   simp only[C,Xab]at h
   obtain⟨hle,I⟩:=Zar h
   cases I
   refine⟨.agg (arr.extract off (off+n)),by simp[part,ZgD j,ZaH C], ?_⟩
   simp only[VRel]
   refine⟨_,rfl,fun c hc=>U c (Xbl (XaH hc)), ?_⟩
   rw[Array.toList_extract]
   have:(arr.toList.take (off+n)).drop off=(arr.toList.drop off).take n:=by rw[List.drop_take];congr 1;omega
   simpa[List.extract_eq_take_drop]using VL.take n (VL.drop off J)
 ·rename_i j
  obtain⟨v,R,I⟩:=VL.get J h
  exact⟨v,by simp[part,ZgD j];simp at R;simp[R],I⟩
 ·simp at h
theorem Zir {t:TypeId} {cs:List PV} {r b o:Nat} {p:PV} (h:Zdd P t cs r=some p) (U:VC φ w S cs b o):
 ∃u,(loadVar t ⟨b,o+r,none⟩).run P w= .ok u w∧VRel φ w S p u:=by
 unfold Zdd at h
 split at h
 ·rename_i I
  cases J:Za1 P t with
  |none=>simp[J]at h
  |some n=>
   simp only[J,Xab]at h
   obtain⟨hle,R⟩:=Zar h
   cases R
   obtain⟨vs,C,h3,h4⟩:=VC.vals (VC.take n (VC.drop r (by omega) U))
   have hlen:vs.length=n:=by rw[VL.length C,Xas,XaZ];omega
   refine⟨.agg vs.toArray, ?_, ?_⟩
   ·have:=run_loadCells_list (P:=P) w ⟨b,o+r,none⟩ vs (fun j v hj=>by rw[Addr.add_lit];exact h4 j v hj)
    rw[hlen]at this
    simp[loadVar,ZgD I,ZaH J,this]
   ·simp only[VRel];exact⟨_,rfl,h3,C⟩
 ·rename_i I
  obtain⟨_,v,C,R⟩:=VC.get U h
  exact⟨v,by simp[loadVar,ZgD I,run_load,C],R⟩
 ·simp at h
theorem ZhH {t:TypeId} {x p:PV} {a:Value} (hI:Inv φ H w S B) (h:ZbF P H t x=some p) (C:VRel φ w S x a): ∃u,(Instr.loadAt t a).run P w= .ok u w∧VRel φ w S p u:=by
 unfold ZbF at h
 split at h
 ·rename_i id i r
  split at h
  ·rename_i es z m hm
   cases j:es[i]? with
   |none=>simp[j]at h
   |some c=>
    simp only[j,Xab]at h
    simp only[VRel]at C
    obtain⟨l,U,rfl⟩:=C
    have I:=hI.row id l es z m U hm
    have:=VE.get I.wid I.cells j
    rw[←I.zs]at this
    obtain⟨u,J,R⟩:=Zir (P:=P) (t:=t) h this
    exact⟨u,by simpa[Instr.loadAt,Instr.sureAddr]using J,R⟩
  ·simp at h
 ·rename_i c r
  simp only[VRel,IRel]at C
  obtain⟨b,o,rfl,hb,j⟩:=C
  obtain⟨u,J,R⟩:=Zir (P:=P) (t:=t) h (CsRel.toV (φ:=φ) _ _ _ j)
  exact⟨u,by simpa[Instr.loadAt,Instr.sureAddr]using J,R⟩
 ·simp at h
theorem Zau {t:TypeId} {d:TypeDesc} (h:P.underlying t=some d):(underlying t).run P w= .ok d w:=run_underlying h w
theorem ZgU {s:TypeId} {x p:PV} {f:Nat} {a:Value} (h:Zcx P s x f=some p) (J:VRel φ w S x a): ∃u,(Instr.fieldAt s a f).run P w= .ok u w∧VRel φ w S p u:=by
 unfold Zcx at h
 cases I:fieldAt P s f with
 |none=>simp[I]at h
 |some of=>
  obtain⟨off,ft⟩:=of
  simp only[I,Xab]at h
  unfold fieldAt at I
  split at I
  ·rename_i fs hu
   cases C:fs[f]? with
   |none=>simp[C]at I
   |some fd=>
    simp[C]at I
    obtain⟨rfl,rfl⟩:=I
    split at h
    ·simp at h
    ·rename_i n R hn
     have j: ∀b o,(fieldPlace ⟨b,o,none⟩ fd).run P w= .ok ⟨b,o+fd.offset,none⟩ w:=by
      intro b o
      have U:n≠0:=by rintro rfl;exact R rfl
      simp[fieldPlace,ZaH hn,U,Addr.add_lit]
     split at h
     ·rename_i id i r
      cases h
      simp only[VRel]at J⊢
      obtain⟨l,hl,rfl⟩:=J
      exact⟨_,by simp[Instr.fieldAt,Zau hu,C,Instr.sureAddr,j]<;>rfl,l,hl,by simp[Xbt]⟩
     ·rename_i cs r
      cases h
      simp only[VRel,IRel]at J⊢
      obtain⟨b,o,rfl,hb,hc⟩:=J
      exact⟨_,by simp[Instr.fieldAt,Zau hu,C,Instr.sureAddr,j]<;>rfl,b,o,by simp[Xbt],hb,hc⟩
     ·simp at h
    ·simp at h
  ·simp at I
theorem Zk2 {s:TypeId} {x p:PV} {f:Nat} {a:Value} (h:Zik P s x f=some p) (I:VRel φ w S x a): ∃u,(Instr.field s a f).run P w= .ok u w∧VRel φ w S p u:=by
 unfold Zik at h
 cases j:fieldAt P s f with
 |none=>simp[j]at h
 |some of=>
  obtain⟨off,ft⟩:=of
  simp only[j,Xab]at h
  unfold fieldAt at j
  split at j
  ·rename_i J hu
   cases C:J[f]? with
   |none=>simp[C]at j
   |some fd=>
    simp[C]at j
    obtain⟨rfl,rfl⟩:=j
    split at h
    ·rename_i cs
     simp only[VRel]at I
     obtain⟨arr,rfl,R,U⟩:=I
     obtain⟨u,h1,h2⟩:=Zkg h R U
     exact⟨u,by simp[Instr.field,Zau hu,C,asAgg,h1],h2⟩
    ·simp at h
  ·simp at j
theorem Zhm {t:TypeId} {x ix p:PV} {a j:Value} (hI:Inv φ H w S B) (h:Zav P H t x ix=some p) (I:VRel φ w S x a) (hj:VRel φ w S ix j):
 ∃u,(Instr.indexAt t a j).run P w= .ok u w∧VRel φ w S p u:=by
 unfold Zav at h
 split at h
 ·rename_i k U
  simp only[VRel]at hj;subst hj
  split at h
  ·rename_i e es hu
   cases C:Za1 P e with
   |none=>simp[C]at h
   |some z=>
    simp only[C,Xab]at h
    obtain⟨J,h⟩:=Zar h
    cases hc:es[U.toNat]? with
    |none=>simp[hc]at h
    |some c=>
     simp only[hc,Xab]at h
     obtain⟨aa,h⟩:=Zar h
     cases h
     simp only[VRel,IRel]at I⊢
     obtain⟨ad,cp,rfl,hle,I⟩:=I
     rcases I with rfl|⟨b,o,z',rfl,hS,hw,he⟩
     ·simp at J;omega
     ·have R:z'=z:=by rw[←hw c (XaI hc)];exact aa
      subst R
      refine⟨.pointer (some ⟨b,o+U.toNat*z',none⟩), ?_,b,o+U.toNat*z',by simp,hS,EsRel.get hw he hc⟩
      simp[Instr.indexAt,asIntOf,Zau hu,J,ZaH C,Addr.add_lit]
  ·rename_i e id i n room hu
   cases C:Za1 P e with
   |none=>simp[C]at h
   |some z=>
    simp only[C,Xab]at h
    obtain⟨J,h⟩:=Zar h
    split at h
    ·rename_i es z' m hm
     obtain⟨R,h⟩:=Zar h
     cases h
     simp only[VRel]at I⊢
     obtain⟨l,ad,cp,hl,rfl,ae,hle,I⟩:=I
     have hr:=hI.row id l es z' m hl hm
     have ab:l.z=z:=hr.zs.trans R
     rcases I with⟨h0,_⟩|⟨rfl,_⟩
     ·omega
     ·refine⟨.pointer (some ⟨l.b,l.o+i*l.z+U.toNat*z,none⟩), ?_,l,hl, ?_⟩
      ·simp[Instr.indexAt,asIntOf,Zau hu,J,ZaH C,Addr.add_lit]
      ·rw[ab,Xa4];simp[Xbt]
    ·simp at h
  ·rename_i n e id i r hu
   cases C:Za1 P e with
   |none=>simp[C]at h
   |some z=>
    simp only[C,Xab]at h
    obtain⟨J,h⟩:=Zar h
    cases h
    simp only[VRel]at I⊢
    obtain⟨l,hl,rfl⟩:=I
    refine⟨.pointer (some ⟨l.b,l.o+i*l.z+r+U.toNat*z,none⟩), ?_,l,hl,by simp[Xbt]⟩
    simp[Instr.indexAt,asIntOf,Zau hu,J,ZaH C,Addr.add_lit,Instr.sureAddr]
  ·rename_i n e cs r hu
   cases C:Za1 P e with
   |none=>simp[C]at h
   |some z=>
    simp only[C,Xab]at h
    obtain⟨J,h⟩:=Zar h
    cases h
    simp only[VRel,IRel]at I⊢
    obtain⟨b,o,rfl,hS,hc⟩:=I
    refine⟨.pointer (some ⟨b,o+r+U.toNat*z,none⟩), ?_,b,o,by simp[Xbt],hS,hc⟩
    simp[Instr.indexAt,asIntOf,Zau hu,J,ZaH C,Addr.add_lit,Instr.sureAddr]
  ·simp at h
 ·simp at h
theorem ZkS {t:TypeId} {x ix p:PV} {a j:Value} (h:ZgL P t x ix=some p) (R:VRel φ w S x a) (hj:VRel φ w S ix j):
 ∃u,(Instr.index t a j).run P w= .ok u w∧VRel φ w S p u:=by
 unfold ZgL at h
 split at h
 ·rename_i k C
  simp only[VRel]at hj;subst hj
  split at h
  ·rename_i n e cs hu
   cases U:Za1 P e with
   |none=>simp[U]at h
   |some z=>
    simp only[U,Xab]at h
    obtain⟨hb,h⟩:=Zar h
    simp only[VRel]at R
    obtain⟨arr,rfl,ho,hv⟩:=R
    obtain⟨u,h1,h2⟩:=Zkg h ho hv
    exact⟨u,by simp[Instr.index,asIntOf,Zau hu,hb,ZaH U,h1],h2⟩
  ·rename_i s hu
   obtain⟨hb,h⟩:=Zar h
   simp only[VRel]at R;subst R
   cases hc:s.data.toList[C.toNat]? with
   |none=>simp[hc]at h
   |some b=>
    simp only[hc,Xak,Xaf]at h
    subst h
    have hs:s[C.toNat]? =some b:=by
     have:=Xae.1 hc
     obtain⟨I,aa⟩:=this
     have J:C.toNat<s.size:=by simpa using I
     rw[getElem?_pos s C.toNat J]
     have ab:s.data[C.toNat]'(by simpa using I)=b:=by simpa using aa
     exact congrArg some ab
    exact⟨_,by simp[Instr.index,asIntOf,Zau hu,hb,hs]<;>rfl,Zbj _ _⟩
  ·simp at h
 ·simp at h
theorem ZnD {ts:Array TypeId} {ty t:TypeId} {x p:PV} {a:Value} (hI:Inv φ H w S B) (I:ts[0]? =some t) (h:Zd5 P H t x=some p) (j:VRel φ w S x a):
 ∃u,(Builtin.len_ ts ty #[a]).run P w= .ok u w∧VRel φ w S p u:=by
 unfold Zd5 at h
 split at h
 ·rename_i s hu
  cases h;simp only[VRel]at j;subst j
  exact⟨_,by simp[Builtin.len_,I,Zau hu]<;>rfl,Zbj _ _⟩
 ·rename_i n e hu
  cases h
  exact⟨_,by simp[Builtin.len_,I,Zau hu]<;>rfl,Zbj _ _⟩
 ·rename_i e hu
  cases h;simp only[VRel]at j;subst j
  exact⟨_,by simp[Builtin.len_,I,Zau hu]<;>rfl,Zbj _ _⟩
 ·rename_i e es hu
  cases h;simp only[VRel,IRel]at j
  obtain⟨U,c,rfl,_⟩:=j
  exact⟨_,by simp[Builtin.len_,I,Zau hu]<;>rfl,Zbj _ _⟩
 ·rename_i e id i n hu
  cases h;simp only[VRel]at j
  obtain⟨l,U,c,_,rfl,_⟩:=j
  exact⟨_,by simp[Builtin.len_,I,Zau hu]<;>rfl,Zbj _ _⟩
 ·rename_i k e hu
  cases h;simp only[VRel]at j;subst j
  exact⟨_,by simp[Builtin.len_,I,Zau hu]<;>rfl,Zbj _ _⟩
 ·rename_i k e id hu
  split at h
  ·rename_i es hm
   cases h;simp only[VRel]at j
   obtain⟨l,hl,rfl⟩:=j
   obtain⟨_,C,clock,R,J,_⟩:=hI.map id l es hl hm
   have hlen:C.toList.length=es.length:=by
    clear R hm
    generalize C.toList=el at J
    induction es generalizing el with
    |nil=>simp only[VM]at J;simp[J]
    |cons x r ih=>
     obtain⟨k,v⟩:=x
     obtain⟨e,l',rfl,_,_,h4⟩:=J
     simp[ih _ h4]
   refine⟨.int .i64 C.size, ?_,by simp only[VRel];rw[←hlen];simp⟩
   simp[Builtin.len_,I,Zau hu,getObj,Sem.run,R,goInt]
  ·simp at h
 ·simp at h
theorem ZkZ {x p:PV} {a:Value} {i:Nat} (h:Zes (some x) i=some p) (j:VRel φ w S x a): ∃u,(Instr.extract a i).run P w= .ok u w∧VRel φ w S p u:=by
 unfold Zes at h
 simp only[Xab]at h
 split at h
 ·simp only[VRel]at j
  obtain⟨arr,rfl,I⟩:=j
  obtain⟨v,C,J⟩:=VL.get I h
  simp at C
  exact⟨v,by simp[Instr.extract,C],J⟩
 ·simp at h
end
variable [Laid]
open Go.RowKit
section
variable {P : Program} {w : World} {φ : Phi} {S : Nat → Prop} {B : Nat} {H : List Mem}
def ZhP (φ:Phi) (w:World) (S:Nat→Prop):Option PV→Option Value→Prop
 |none,v=>v=none
 |some p,v=> ∃u,v=some u∧VRel φ w S p u
theorem ZrP {n c x:Nat} {hi:Option PV} {I:Option Value} {isS:Bool} (C:bHi n hi=some x) (U:n≤c) (J:ZhP φ w S hi I):
 x≤n∧(match I with|some v=>Instr.sliceBound v c (if isS then .sliceAcap else .sliceAlen)|none=>pure n:Sem Nat).run P w= .ok x w:=by
 unfold bHi at C
 split at C
 ·cases C;simp only[ZhP]at J;subst J;exact⟨Xan _,rfl⟩
 ·rename_i k j
  obtain⟨R,C⟩:=Zar C
  cases C
  simp only[ZhP,VRel]at J
  obtain⟨u,rfl,rfl⟩:=J
  refine⟨by omega, ?_⟩
  have:0≤j∧j≤(c:Int):=⟨R.1,by omega⟩
  simp[Instr.sliceBound,asIntOf,this]
 ·cases C
theorem Zgf {x y:Nat} {lo:Option PV} {I:Option Value} (C:bLo x lo=some y) (J:ZhP φ w S lo I):
 y≤x∧(match I with|some v=>Instr.sliceBound v x .sliceB|none=>pure 0:Sem Nat).run P w= .ok y w:=by
 unfold bLo at C
 split at C
 ·cases C;simp only[ZhP]at J;subst J;exact⟨Xao _,rfl⟩
 ·rename_i k j
  obtain⟨R,C⟩:=Zar C
  cases C
  simp only[ZhP,VRel]at J
  obtain⟨u,rfl,rfl⟩:=J
  refine⟨by omega, ?_⟩
  simp[Instr.sliceBound,asIntOf,R]
 ·cases C
theorem ZmE {n c:Nat} {lo hi:Option PV} {I J:Option Value} {l h:Nat} {isS:Bool} (R:ZeT n lo hi=some (l,h)) (hc:n≤c) (hl:ZhP φ w S lo I) (hh:ZhP φ w S hi J):
 (Instr.sliceBounds isS n c I J none).run P w= .ok (l,h,c) w∧l≤h∧h≤n:=by
 unfold ZeT at R
 cases U:bHi n hi with
 |none=>simp[U]at R
 |some x=>
  simp only[U,Xab]at R
  cases hy:bLo x lo with
  |none=>simp[hy]at R
  |some y=>
   simp only[hy,Xab,Xaf,Prod.mk.injEq]at R
   obtain⟨rfl,rfl⟩:=R
   obtain⟨aa,C⟩:=ZrP (P:=P) (isS:=isS) U hc hh
   obtain⟨ab,j⟩:=Zgf (P:=P) hy hl
   refine⟨?_,ab,aa⟩
   cases J with
   |none=>
    have e1:x=n:=by simp at C;exact C.symm
    subst e1
    cases I with
    |none=>have e2:y=0:=by simp at j;exact j.symm
           subst e2;simp[Instr.sliceBounds]
    |some lv=>simp only[]at j;simp[Instr.sliceBounds,j]
   |some hv=>
    simp only[]at C
    cases I with
    |none=>have e2:y=0:=by simp at j;exact j.symm
           subst e2;simp[Instr.sliceBounds,C]
    |some lv=>simp only[]at j;simp[Instr.sliceBounds,C,j]
theorem Zea {n m c:Nat} {lo hi mx:Option PV} {ab ad ae:Option Value} {l h x:Nat} (hb:ZbU n m lo hi mx=some (l,h,x)) (hn:n≤m) (hc:m≤c) (I:ZhP φ w S lo ab) (hh:ZhP φ w S hi ad) (hm:ZhP φ w S mx ae):
 ∃X,(Instr.sliceBounds true n c ab ad ae).run P w= .ok (l,h,X) w∧l≤h∧h≤x∧x≤m∧x≤X∧X≤c:=by
 unfold ZbU at hb
 split at hb
 ·cases hb
 rename_i af
 have ag:mx.isSome=true→hi.isNone=true→False:=by intro a b;apply af;simp[a,b]
 clear af
 obtain⟨h0,J,ah⟩:=Zak hb
 obtain⟨l0,C,ai⟩:=Zak ah
 obtain⟨x0,hz,aj⟩:=Zak ai
 simp only[Xaf,Prod.mk.injEq]at aj
 clear hb ah ai
 obtain⟨rfl,rfl,rfl⟩:=aj
 obtain⟨aa,_⟩:=Zgf (P:=P) C I
 cases mx with
 |none=>
  simp only[ZhP]at hm;subst hm
  simp only[bMx,Xaf]at hz
  subst hz
  cases hi with
  |none=>
   simp only[Zu4,Xaf]at J;subst J
   simp only[ZhP]at hh;subst hh
   refine⟨c, ?_,aa,hn,Xan _,hc,Xan _⟩
   cases lo with
   |none=>simp only[bLo,Xaf]at C;subst C;simp only[ZhP]at I;subst I;simp[Instr.sliceBounds]
   |some lv=>
    have h2:=(Zgf (P:=P) C I).2
    obtain⟨u,rfl,_⟩:=I
    simp only[]at h2
    simp[Instr.sliceBounds,h2]
  |some hv=>
   cases hv<;>simp only[Zu4]at J<;>try (cases J;done)
   rename_i k j
   obtain⟨hj,J⟩:=Zar J
   cases J
   simp only[ZhP,VRel]at hh
   obtain⟨u,rfl,rfl⟩:=hh
   have R:0≤j∧j≤(c:Int):=⟨hj.1,by omega⟩
   have al:j.toNat≤m:=by omega
   have U:(Instr.sliceBound (.int k j) c .sliceAcap).run P w= .ok j.toNat w:=by simp[Instr.sliceBound,asIntOf,R]
   refine⟨c, ?_,aa,al,Xan _,hc,Xan _⟩
   cases lo with
   |none=>simp only[bLo,Xaf]at C;subst C;simp only[ZhP]at I;subst I;simp[Instr.sliceBounds,Instr.sliceBound,asIntOf,R]
   |some lv=>
    have h2:=(Zgf (P:=P) C I).2
    obtain⟨u,rfl,_⟩:=I
    simp only[]at h2
    simp[Instr.sliceBounds,U,h2]
 |some mv=>
  cases mv<;>simp only[bMx]at hz<;>try (cases hz;done)
  rename_i k j
  obtain⟨hj,hz⟩:=Zar hz
  cases hz
  simp only[ZhP,VRel]at hm
  obtain⟨u,rfl,rfl⟩:=hm
  have R:0≤j∧j≤(c:Int):=⟨by omega,by omega⟩
  cases hi with
  |none=>exact(ag rfl rfl).elim
  |some hv=>
   cases hv<;>simp only[Zu4]at J<;>try (cases J;done)
   rename_i k' j'
   obtain⟨an,J⟩:=Zar J
   cases J
   simp only[ZhP,VRel]at hh
   obtain⟨u,rfl,rfl⟩:=hh
   have ao:0≤j'∧j'≤(j.toNat:Int):=⟨an.1,by omega⟩
   have U:(Instr.sliceBound (.int k j) c .slice3Acap).run P w= .ok j.toNat w:=by simp[Instr.sliceBound,asIntOf,R]
   have ak:(Instr.sliceBound (.int k' j') j.toNat .slice3B).run P w= .ok j'.toNat w:=by rw[Instr.sliceBound];simp only[asIntOf];simp[-Int.ofNat_toNat,ao]
   refine⟨j.toNat, ?_,aa,by omega,by omega,Xan _,by omega⟩
   cases lo with
   |none=>simp only[bLo,Xaf]at C;subst C;simp only[ZhP]at I;subst I;simp[Instr.sliceBounds,U,ak]
   |some lv=>
    cases lv<;>simp only[bLo]at C<;>try (cases C;done)
    rename_i k2 j2
    obtain⟨aq,C⟩:=Zar C
    cases C
    simp only[ZhP,VRel]at I
    obtain⟨u,rfl,rfl⟩:=I
    simp[Instr.sliceBounds,U,ak]
    simp[Instr.sliceBound,asIntOf]
    omega
theorem Zlf {t:TypeId} {x p:PV} {lo hi mx:Option PV} {a:Value} {aa ab ae:Option Value} (hI:Inv φ H w S B) (h:ZbO P H t x lo hi mx=some p) (j:VRel φ w S x a)
 (hl:ZhP φ w S lo aa) (hh:ZhP φ w S hi ab) (hm:ZhP φ w S mx ae): ∃u,(Instr.sliceAt t a aa ab ae).run P w= .ok u w∧VRel φ w S p u:=by
 unfold ZbO at h
 split at h
 ·rename_i s hu
  split at h
  ·simp only[ZhP]at hm;subst hm
   simp only[VRel]at j;subst j
   cases C:ZeT s.size lo hi with
   |none=>simp[C]at h
   |some lh=>
    obtain⟨l,k⟩:=lh
    simp only[C,Xak,Xaf]at h
    subst h
    obtain⟨J,_⟩:=ZmE (P:=P) (isS:=false) C (Xan _) hl hh
    exact⟨_,by simp[Instr.sliceAt,Instr.slice,Zau hu,J]<;>rfl,Zf1 _⟩
  ·cases h
 ·rename_i e es hu
  obtain⟨z,hz,h⟩:=Zak h
  obtain⟨⟨l,k,x⟩,C,h⟩:=Zak h
  obtain⟨af,h⟩:=Zar h
  cases h
  simp only[VRel,IRel]at j⊢
  obtain⟨I,c,rfl,hle,j⟩:=j
  obtain⟨X,J,h1,h2,h3,h4,h5⟩:=Zea (P:=P) C (Xan _) hle hl hh hm
  have hlen:((es.take k).drop l).length=k-l:=by simp[XaZ,Xas];omega
  refine⟨.slice (some (if X=l then I else I.add (l*z))) (k-l) (X-l), ?_,(if X=l then I else I.add (l*z)),X-l,by rw[hlen],by rw[hlen];omega, ?_⟩
  ·simp[Instr.sliceAt,Instr.slice,Zau hu,J,ZaH hz]
   try (split<;>rfl)
  ·by_cases R:X=l
   ·left
    have:k-l=0:=by omega
    exact XaY.1 (by omega)
   ·rcases j with rfl|⟨b,o,z',rfl,hS,hw,he⟩
    ·left;simp
    ·right
     have U:l=0∨z'=z:=by
      cases es with
      |nil=>left;simp at h3;omega
      |cons c0 r=>
       right
       simp only[Ze2,beq_iff_eq]at af
       rw[←hw c0 Xah,af]
     refine⟨b,o+l*z',z', ?_,hS,fun x j=>hw x (XaH (Xbl j)), ?_⟩
     ·rw[if_neg R]
      simp only[Addr.add_lit]
      rcases U with rfl|rfl<;>simp
     ·exact EsRel.drop l (fun c hc=>hw c (XaH hc)) (by rw[Xas];omega) (EsRel.take k he)
 ·rename_i e id i n room hu
  obtain⟨z,hz,h⟩:=Zak h
  obtain⟨⟨l,k,x⟩,C,h⟩:=Zak h
  simp only at h
  split at h
  ·rename_i es z' m al
   obtain⟨U,h⟩:=Zar h
   cases h
   simp only[VRel]at j⊢
   obtain⟨lc,I,c,ag,rfl,ah,hle,j⟩:=j
   obtain⟨X,J,h1,h2,h3,h4,h5⟩:=Zea (P:=P) C ah hle hl hh hm
   have ai:=hI.row id lc es z' m ag al
   have an:lc.z=z:=ai.zs.trans U
   refine⟨.slice (some (if X=l then I else I.add (l*z))) (k-l) (X-l), ?_,lc,(if X=l then I else I.add (l*z)),X-l,ag,rfl,by omega,by omega, ?_⟩
   ·simp[Instr.sliceAt,Instr.slice,Zau hu,J,ZaH hz]
    split<;>rfl
   ·by_cases R:X=l
    ·left;omega
    ·rcases j with⟨h0,ao⟩|⟨rfl,aj⟩
     ·omega
     ·right
      refine⟨?_, ?_⟩
      ·rw[if_neg R,Addr.add_lit,an,Xa4];simp[Xbt]
      ·have ak:(i+l+(X-l))≤i+c:=by omega
       exact XaM (Xa8 _ ak) aj
  ·cases h
 ·rename_i e hu
  simp only[VRel]at j;subst j
  obtain⟨z,hz,h⟩:=Zak h
  obtain⟨⟨l,k,x⟩,C,h⟩:=Zxf h
  subst h
  obtain⟨X,J,h1,h2,h3,h4,h5⟩:=Zea (P:=P) C (Xan _) (Xan _) hl hh hm
  have e1:k=0:=by omega
  have e2:l=0:=by omega
  have e3:X=0:=by omega
  subst e1;subst e2;subst e3
  refine⟨.slice none 0 0, ?_,by simp only[VRel]⟩
  simp[Instr.sliceAt,Instr.slice,Zau hu,J,ZaH hz]
 ·cases h
theorem ZkU {w w':World} {b:Nat} (h:w'.heap[b]? =w.heap[b]?) (o:Nat):w'.frozen? ⟨b,o,none⟩=w.frozen? ⟨b,o,none⟩:=by simp[World.frozen?,h]
theorem RowAt.mono {φ':Phi} {w':World} {S':Nat→Prop} {l:Loc} {es:List (List PV)} {z:Nat} {m:Bool} (h:RowAt φ w S l es z m) (hp: ∀id l,φ id=some l→φ' id=some l) (R: ∀b,S b→S' b∧w'.heap[b]? =w.heap[b]?)
 (C:w'.heap[l.b]? =w.heap[l.b]?) (I:S' l.b→S l.b):RowAt φ' w' S' l es z m where
 zs:=h.zs
 top:=h.top
 wid:=h.wid
 cells:=VE.mono hp R _ _ _ C h.cells
 blk:=by
  obtain⟨cur,e,fz,U,h2,h3⟩:=h.blk
  exact⟨cur,e,fz,by rw[C];exact U,h2,fun hm j hj=>by rw[ZkU C];exact h3 hm j hj⟩
 own:=fun hm J=>h.own hm (I J)
 frz:=fun hm=>(R _ (h.frz hm)).1
theorem Inv.ext {w':World} {S':Nat→Prop} (hI:Inv φ H w S B) (C:Below w.heap.size w w') (hS: ∀b,S b→S' b) (R: ∀b,S' b→b<w'.heap.size) (j: ∀b,b<w.heap.size→S' b→S b):Inv φ H w' S' B∧Evo H.length B φ S w φ S' w':=by
 have J: ∀b,S b→S' b∧w'.heap[b]? =w.heap[b]? :=fun b h=>⟨hS b h,C.block b (hI.stable b h)⟩
 refine⟨⟨?_, ?_, ?_,hI.apart,R,XaM hI.base C.size,Laid.mono _ _ _ _ J hI.laid⟩,fun _ _ _ h=>h,J,fun b U h=>j b (XaJ U hI.base) h,C.mono hI.base⟩
 ·intro id l h
  have:=hI.live id l h
  exact⟨this.1,XaJ this.2.1 C.size,this.2.2⟩
 ·intro id l es z m h h2
  exact(hI.row id l es z m h h2).mono (fun _ _ h=>h) J (C.block _ (hI.live id l h).2.1) (j _ (hI.live id l h).2.1)
 ·intro id l es h h2
  obtain⟨h3,I,clock,h4,h5⟩:=hI.map id l es h h2
  exact⟨fun hx=>h3 (j _ (hI.live id l h).2.1 hx),I,clock,by rw[C.block _ (hI.live id l h).2.1];exact h4,VMc.mono (fun _ _ h=>h) J h5⟩
theorem Inv.foreign {w':World} (hI:Inv φ H w S B) (j:Below w.heap.size w w'):Inv φ H w' (fun b=>S b∨(w.heap.size≤b∧b<w'.heap.size)) B∧Evo H.length B φ S w φ (fun b=>S b∨(w.heap.size≤b∧b<w'.heap.size)) w':=
 hI.ext j (fun b h=> .inl h) (fun b h=>h.elim (fun h=>XaJ (hI.stable b h) j.size) (fun h=>h.2)) (fun b C h=>h.elim id (fun h=>by omega))
theorem Inv.add {w':World} {id:Nat} {es:List (List PV)} {z:Nat} {m0:Bool} {cur:Array Value} {e:TypeId} {fz:Nat×Nat} {vs:List Value} (hI:Inv φ H w S B) (R:Below w.heap.size w w') (ai:φ id=none) (hH:H[id]? =some (.row es z m0))
 (I:w'.heap[w.heap.size]? =some (.cells cur e fz)) (ad: ∀c∈es,c.length=z) (hv:VL φ w S es.flatten vs) (h1: ∀c∈es.flatten,Zcr c=true) (ae: ∀ (j:Nat) (v:Value),vs[j]? =some v→cur[j]? =some v)
 (af:es.length*z≤cur.size) (aj: ∀j,j<cur.size→ ¬ (fz.1≤j∧j<fz.2)):
 ∃φ' S',Inv φ' H w' S' B∧Evo H.length B φ S w φ' S' w'∧φ' id=some ⟨w.heap.size,0,z,cur.size⟩∧(∀i,i≠id→φ' i=φ i):=by
 have U:w.heap.size<w'.heap.size:=by
  rcases XaO w.heap.size w'.heap.size with h|h
  ·exact h
  ·rw[Array.getElem?_eq_none h]at I;cases I
 have aa:id<H.length:=(Xae.1 hH).1
 let φ':Phi:=fun i=>if i=id then some ⟨w.heap.size,0,z,cur.size⟩else φ i
 let S':Nat→Prop:=fun b=>S b∨(m0=false∧b=w.heap.size)
 have hp: ∀i l,φ i=some l→φ' i=some l:=by
  intro i l h
  show(if i=id then _ else φ i)=_
  rw[if_neg]
  ·exact h
  ·rintro rfl;rw[ai]at h;cases h
 have hs: ∀b,S b→S' b∧w'.heap[b]? =w.heap[b]? :=fun b h=>⟨.inl h,R.block b (hI.stable b h)⟩
 have ab: ∀b,b<w.heap.size→S' b→S b:=by
  rintro b U (h|⟨_,h⟩)
  ·exact h
  ·omega
 have hid:φ' id=some ⟨w.heap.size,0,z,cur.size⟩:=if_pos rfl
 have C: ∀i,i≠id→φ' i=φ i:=fun i h=>if_neg h
 refine⟨φ',S',⟨?_, ?_, ?_, ?_, ?_,XaM hI.base R.size,Laid.mono _ _ _ _ hs hI.laid⟩,⟨fun i l _ h=>hp i l h,hs,fun b ak h=>ab b (XaJ ak hI.base) h,R.mono hI.base⟩,hid,C⟩
 ·intro i l h
  by_cases hi:i=id
  ·subst hi;rw[hid]at h;cases h;exact⟨hI.base,U,aa⟩
  ·rw[C i hi]at h
   have:=hI.live i l h
   exact⟨this.1,XaJ this.2.1 R.size,this.2.2⟩
 ·intro i l es' z' m h h2
  by_cases hi:i=id
  ·subst hi
   rw[hid]at h;cases h
   rw[hH]at h2;cases h2
   refine⟨rfl,af,ad, ?_,⟨cur,e,fz,I,by simp, ?_⟩, ?_, ?_⟩
   ·refine VE.of_flat (VC.of_vals (VL.mono hp hs _ _ hv) h1 ?_)
    intro j v hj
    have hc:=ae j v hj
    simp[World.cell?,I,hc]
   ·intro _ j hj
    have:=aj j hj
    simp only[World.frozen?,I,Bool.and_eq_false_iff,decide_eq_false_iff_not]
    omega
   ·rintro hm (al|⟨J,_⟩)
    ·have:=hI.stable _ al;simp at this
    ·rw[hm]at J;cases J
   ·intro hm;exact .inr ⟨hm,rfl⟩
  ·rw[C i hi]at h
   exact(hI.row i l es' z' m h h2).mono hp hs (R.block _ (hI.live i l h).2.1) (ab _ (hI.live i l h).2.1)
 ·intro i l es' h h2
  by_cases hi:i=id
  ·subst hi;rw[hH]at h2;cases h2
  ·rw[C i hi]at h
   obtain⟨h3,ag,clock,h4,h5⟩:=hI.map i l es' h h2
   exact⟨fun hx=>h3 (ab _ (hI.live i l h).2.1 hx),ag,clock,by rw[R.block _ (hI.live i l h).2.1];exact h4,VMc.mono hp hs h5⟩
 ·intro i j l l' m m' ah h h' hm J ha an
  by_cases hi:i=id
  ·subst hi
   rw[hid]at h;cases h
   rw[C j (fun e=>ah e.symm)]at h'
   have:=(hI.live j l' h').2.1
   show w.heap.size≠l'.b
   omega
  ·by_cases hj:j=id
   ·subst hj
    rw[hid]at h';cases h'
    rw[C i hi]at h
    have:=(hI.live i l h).2.1
    show l.b≠w.heap.size
    omega
   ·rw[C i hi]at h;rw[C j hj]at h'
    exact hI.apart i j l l' m m' ah h h' hm J ha an
 ·rintro b (h|⟨_,rfl⟩)
  ·exact XaJ (hI.stable b h) R.size
  ·exact U
theorem Inv.addMap {w':World} {id:Nat} {clock:Nat} (hI:Inv φ H w S B) (J:Below w.heap.size w w') (ad:φ id=none) (hH:H[id]? =some (.map []))
 (I:w'.heap[w.heap.size]? =some (.map #[] clock)):
 ∃φ' S',Inv φ' H w' S' B∧Evo H.length B φ S w φ' S' w'∧φ' id=some ⟨w.heap.size,0,0,0⟩∧(∀i,i≠id→φ' i=φ i):=by
 have ae:w.heap.size<w'.heap.size:=by
  rcases XaO w.heap.size w'.heap.size with h|h
  ·exact h
  ·rw[Array.getElem?_eq_none h]at I;cases I
 have R:id<H.length:=(Xae.1 hH).1
 let φ':Phi:=fun i=>if i=id then some ⟨w.heap.size,0,0,0⟩else φ i
 have hp: ∀i l,φ i=some l→φ' i=some l:=by
  intro i l h
  show(if i=id then _ else φ i)=_
  rw[if_neg]
  ·exact h
  ·rintro rfl;rw[ad]at h;cases h
 have hs: ∀b,S b→S b∧w'.heap[b]? =w.heap[b]? :=fun b h=>⟨h,J.block b (hI.stable b h)⟩
 have hid:φ' id=some ⟨w.heap.size,0,0,0⟩:=if_pos rfl
 have C: ∀i,i≠id→φ' i=φ i:=fun i h=>if_neg h
 refine⟨φ',S,⟨?_, ?_, ?_, ?_, ?_,XaM hI.base J.size,Laid.mono _ _ _ _ hs hI.laid⟩,⟨fun i l _ h=>hp i l h,hs,fun _ _ h=>h,J.mono hI.base⟩,hid,C⟩
 ·intro i l h
  by_cases hi:i=id
  ·subst hi;rw[hid]at h;cases h;exact⟨hI.base,ae,R⟩
  ·rw[C i hi]at h
   have:=hI.live i l h
   exact⟨this.1,XaJ this.2.1 J.size,this.2.2⟩
 ·intro i l es' z' m h U
  by_cases hi:i=id
  ·subst hi;rw[hH]at U;cases U
  ·rw[C i hi]at h
   exact(hI.row i l es' z' m h U).mono hp hs (J.block _ (hI.live i l h).2.1) fun x=>x
 ·intro i l es' h U
  by_cases hi:i=id
  ·subst hi
   rw[hid]at h;cases h
   rw[hH]at U;cases U
   exact⟨fun hx=>by have:=hI.stable _ hx;simp at this, #[],clock,I,rfl,fun e he=>by simp at he⟩
  ·rw[C i hi]at h
   obtain⟨h3,aa,clock,h4,h5⟩:=hI.map i l es' h U
   exact⟨h3,aa,clock,by rw[J.block _ (hI.live i l h).2.1];exact h4,VMc.mono hp hs h5⟩
 ·intro i j l l' m m' ab h h' hm af ha ag
  by_cases hi:i=id
  ·subst hi
   rw[hid]at h;cases h
   rw[C j (fun e=>ab e.symm)]at h'
   have:=(hI.live j l' h').2.1
   show w.heap.size≠l'.b
   omega
  ·by_cases hj:j=id
   ·subst hj
    rw[hid]at h';cases h'
    rw[C i hi]at h
    have:=(hI.live i l h).2.1
    show l.b≠w.heap.size
    omega
   ·rw[C i hi]at h;rw[C j hj]at h'
    exact hI.apart i j l l' m m' ab h h' hm af ha ag
 ·exact fun b h=>XaJ (hI.stable b h) J.size
theorem Ziu (w:World) (o:Obj):Below w.heap.size w (w.alloc o):=(Below.refl _ _).alloc (Xan _) o
theorem ZeA (w:World) (o:Obj):Below w.heap.size w (w.drew.alloc o):=((Below.refl _ _).drew).alloc (Xan _) o
theorem Zgr (w:World) (o:Obj):(w.alloc o).heap[w.heap.size]? =some o:=heap_alloc_new w o
theorem Zdz (w:World) (o:Obj):(w.drew.alloc o).heap[w.heap.size]? =some o:=heap_alloc_new w.drew o
end
variable [Laid]
open Go.RowKit
section
variable {P : Program} {w : World} {φ : Phi} {S : Nat → Prop} {B : Nat} {H : List Mem}
theorem ZiD {x:PV} {es:List (List PV)} {v:Value} (hI:Inv φ H w S B) (h:elems H x=some es) (j:VRel φ w S x v):
 ∃a c,v= .slice a es.length c∧es.length≤c∧(es=[]∨ ∃b o z,a=some ⟨b,o,none⟩∧(∀c∈es,c.length=z)∧VE φ w S es b o):=by
 unfold elems at h
 split at h
 ·cases h;simp only[VRel]at j;subst j;exact⟨none,0,rfl,Xan _, .inl rfl⟩
 ·cases h
  simp only[VRel,IRel]at j
  obtain⟨a,c,rfl,hle,j⟩:=j
  refine⟨a,c,rfl,hle, ?_⟩
  rcases j with j|⟨b,o,z,ha,_,hw,he⟩
  ·exact .inl j
  ·exact .inr ⟨b,o,z,congrArg some ha,hw,EsRel.toV _ _ _ he⟩
 ·rename_i id i n room
  split at h
  ·rename_i C z m hm
   obtain⟨hle,h⟩:=Zar h
   cases h
   simp only[VRel]at j
   obtain⟨l,ad,c,hl,rfl,J,R,j⟩:=j
   have U:n≤c:=XaM J R
   have hlen:((C.drop i).take n).length=n:=by rw[Xas,XaZ];omega
   refine⟨some ad,c,by rw[hlen],by rw[hlen];exact U, ?_⟩
   have I:=hI.row id l C z m hl hm
   rcases j with⟨h0,_⟩|⟨rfl,_⟩
   ·left;exact XaY.1 (by omega)
   ·right
    refine⟨l.b,l.o+i*l.z,z,rfl,fun c hc=>I.wid c (Xbl (XaH hc)), ?_⟩
    rw[I.zs]
    exact VE.take n (VE.drop i I.wid (by omega) I.cells)
  ·cases h
 ·cases h
theorem Zhy: ∀ {es:List (List PV)} {l:List UInt8},bytesOf es=some l→ ∃ns:List Int,es=ns.map (fun n=> [PV.int .u8 n])∧l=ns.map (fun n=>UInt8.ofNat n.toNat)
 | [],l,h=>by simp[bytesOf]at h;exact⟨[],rfl,by simp[h]⟩
 |c::r,l,h=>by
  unfold bytesOf at h
  split at h
  ·rename_i e;cases e
  ·rename_i n J e
   cases e
   cases j:bytesOf r with
   |none=>simp[j]at h
   |some R=>
    simp[j]at h
    obtain⟨ns,C,I⟩:=Zhy j
    exact⟨n::ns,by simp[C],by simp[←h,I]⟩
  ·cases h
theorem Zom {k:IntKind}: ∀ (ns:List Int),VL φ w S (ns.map (PV.int k)) (ns.map (Value.int k))
 | []=>by simp only[Xa3,VL]
 |n::ns=>by simp only[Xbb,VL];exact⟨_,_,rfl,Zbj _ _,Zom ns⟩
theorem Zj4 {k:IntKind}: ∀ (ns:List Int) (vs:List Value),VL φ w S (ns.map (PV.int k)) vs→vs=ns.map (Value.int k)
 | [],vs,h=>by simpa only[Xa3,VL]using h
 |n::ns,vs,h=>by
  simp only[Xbb,VL,VRel]at h
  obtain⟨v,r,rfl,rfl,h⟩:=h
  simp[Zj4 ns r h]
theorem ZdP {α β:Type} (f:α→β) (l:List α):(l.map (fun x=> [f x])).flatten=l.map f:=by induction l<;>simp_all
theorem ZlR {n:Int} (I:0≤n) (J:n<128):Utf8.encode n=⟨#[UInt8.ofNat n.toNat]⟩:=by
 have j:Utf8.valid n=true:=by simp[Utf8.valid];omega
 have C:n.toNat<128:=by omega
 simp[Utf8.encode,j,C]
theorem Zmp {s d:TypeId} {x p:PV} {a:Value} (hI:Inv φ H w S B) (h:ZcY P H s d x=some p) (C:VRel φ w S x a):
 ∃u w' S',(convert s d a).run P w= .ok u w'∧Inv φ H w' S' B∧Evo H.length B φ S w φ S' w'∧VRel φ w' S' p u:=by
 unfold ZcY at h
 split at h
 ·rename_i x0 k k' n I J
  cases h;simp only[VRel]at C;subst C
  refine⟨.int k (k.wrap n),w,S, ?_,hI,Evo.refl _ _ _ _ _,Zbj _ _⟩
  simp[convert,run_underlying I,run_underlying J,Conv.intToInt]
 ·rename_i x0 st I J
  cases h;simp only[VRel]at C;subst C
  refine⟨.string st,w,S, ?_,hI,Evo.refl _ _ _ _ _,Zf1 _⟩
  cases x0<;>simp[convert,run_underlying I,run_underlying J]
 ·rename_i x0 k n I J
  obtain⟨hn,h⟩:=Zar h
  cases h;simp only[VRel]at C;subst C
  refine⟨.string ⟨#[UInt8.ofNat n.toNat]⟩,w,S, ?_,hI,Evo.refl _ _ _ _ _,Zf1 _⟩
  rw[run_convert_int_string w s d k n (by rw[I];rfl) J,ZlR hn.1 hn.2]
 ·rename_i e st I J
  simp only[VRel]at C;subst C
  split at h
  ·rename_i he
   cases h
   have key:(convert s d (.string st)).run P w= .ok (.slice (some ⟨w.heap.size,0,none⟩) st.size (grownCap w st.size 0 e))
    (w.drew.alloc (.cells (bytesRow st (grownCap w st.size 0 e)) e ((bytesRow st (grownCap w st.size 0 e)).size,(bytesRow st (grownCap w st.size 0 e)).size+1))):=run_bytes_of_string w s d e st I J he
   obtain⟨h1,h2⟩:=hI.foreign (ZeA w (.cells (bytesRow st (grownCap w st.size 0 e)) e ((bytesRow st (grownCap w st.size 0 e)).size,(bytesRow st (grownCap w st.size 0 e)).size+1)))
   refine⟨_,_,_,key,h1,h2, ?_⟩
   simp only[VRel,IRel]
   have hlen:(byteCells st).length=st.size:=by simp[byteCells]
   refine⟨_,_,by rw[hlen],by rw[hlen];exact grownCap_ge _ _ _ _, .inr ⟨w.heap.size,0,1,rfl, .inr ⟨Xan _,by simp⟩, ?_, ?_⟩⟩
   ·intro c hc
    simp only[byteCells,Xbq]at hc
    obtain⟨b,_,rfl⟩:=hc;rfl
   ·refine VE.toI _ _ _ (VE.of_flat ?_)
    have hf:(byteCells st).flatten=(st.data.toList.map fun b=>(b.toNat:Int)).map (PV.int .u8):=by
     simp only[byteCells]
     rw[ZdP (fun b:UInt8=>PV.int .u8 b.toNat),List.map_map];rfl
    rw[hf]
    refine VC.of_vals (Zom _) (by simp[Zcr]) ?_
    intro j v hj
    have hb:=Zdz w (.cells (bytesRow st (grownCap w st.size 0 e)) e ((bytesRow st (grownCap w st.size 0 e)).size,(bytesRow st (grownCap w st.size 0 e)).size+1))
    simp only[World.cell?,hb]
    simp only[Option.isSome_none,XaG,if_false,Xaq]
    rw[bytesRow,Array.getElem?_append_left]
    ·simpa using hj
    ·have:=(Xae.1 hj).1
     simpa using this
  ·cases h
 ·rename_i x _ _ _ e I J ab _
  split at h
  ·rename_i he
   cases R:elems H x with
   |none=>simp[R]at h
   |some es=>
    simp only[R,Xab]at h
    cases U:bytesOf es with
    |none=>simp[U]at h
    |some l=>
     simp only[U,Xak,Xaf]at h
     subst h
     obtain⟨ad,c,rfl,hle,hc⟩:=ZiD hI R C
     obtain⟨ns,rfl,rfl⟩:=Zhy U
     refine⟨_,w,S, ?_,hI,Evo.refl _ _ _ _ _,Zf1 _⟩
     rw[run_convert_bytes_string w s d e _ _ _ I he J]
     rcases hc with hc|⟨b,o,z,rfl,hw,hv⟩
     ·have:ns=[]:=by simpa using hc
      subst this
      cases ad with
      |none=>simp[Conv.bytesToString];rfl
      |some ad=>
       have:=run_bytesToString (P:=P) w ad 0 c [] (by simp[loadCells,loadCellsFrom])
       simp at this⊢;exact this
     ·have aa:=VE.flat hv
      rw[ZdP (fun n:Int=>PV.int .u8 n)]at aa
      obtain⟨vs,h1,_,h3⟩:=VC.vals aa
      have:=Zj4 _ _ h1
      subst this
      have hl:=run_loadCells_list (P:=P) w ⟨b,o,none⟩ (ns.map (Value.int .u8)) (fun j v hj=>by rw[Addr.add_lit];exact h3 j v hj)
      rw[Xa0]at hl⊢
      rw[run_bytesToString w _ _ _ ns hl,foldl_push_bytes]
      simp
  ·cases h
 ·cases h
theorem Zhj {tm:List (Nat×PV)} {a:Act} {N:Nat} (C:TRel φ w S N tm a) {x:Option Operand} {p:Option PV} (h:Zm4 (ev tm) x=some p):ZhP φ w S p (x.map a.eval):=by
 cases x with
 |none=>simp[Zm4]at h;subst h;simp[ZhP]
 |some o=>
  simp only[Zm4]at h
  cases j:ev tm o with
  |none=>simp[j]at h
  |some q=>simp[j]at h;subst h;exact⟨_,rfl,ZaA C j⟩
theorem Zmu (a b:ByteArray):(a==b)=(a.data==b.data):=rfl
theorem Zvc {a b:ByteArray} (h:(a==b)=true):a=b:=by
 rw[Zmu]at h
 have:=eq_of_beq h
 cases a;cases b;simp at this;simp[this]
theorem Zkc {t:TypeId} {e:TypeDesc×TypeId} (h:Zjy P t=some e): ∃k,P.underlying t=some (.map k e.2)∧P.underlying k=some e.1:=by
 unfold Zjy at h
 split at h
 ·rename_i k C hu
  split at h
  ·rename_i j;cases h;exact⟨k,hu,j⟩
  ·rename_i j;cases h;exact⟨k,hu,j⟩
  ·cases h
 ·cases h
def Ky.val:Ky→Value
 | .s b=> .string b
 | .i k n=> .int k n
theorem ZjD {p:PV} {key:Ky} (h:keyOf p=some key):p=key.pv:=by
 unfold keyOf at h;split at h<;>cases h<;>rfl
theorem Zwa {key:Ky} {v:Value} (h:VRel φ w S key.pv v):v=key.val:=by
 cases key<;>simpa only[Ky.pv,VRel,Ky.val]using h
theorem Zwk (key:Ky):VRel φ w S key.pv key.val:=by
 cases key<;>simp only[Ky.pv,VRel,Ky.val]
theorem Zj9 {key:Ky} {d:TypeDesc} (j:ZfH key d=true) {q:PV} {b:Bool} (h:Zx5 key q=some b) {v:Value} (C:VRel φ w S q v):Instr.sameNow d key.val v=some b∧(b=true→v=key.val):=by
 cases key with
 |s x=>
  cases q<;>simp only[Zx5,ZqO,Xaf]at h<;>try (cases h;done)
  rename_i y
  simp only[VRel]at C
  subst C h
  cases d<;>simp only[ZfH]at j<;>try (cases j;done)
  exact⟨rfl,fun I=>by rw[Zvc I];rfl⟩
 |i k n=>
  cases q<;>simp only[Zx5]at h<;>try (cases h;done)
  rename_i R m
  simp only[VRel]at C
  subst C
  by_cases J:k=R
  ·subst J
   rw[if_pos rfl]at h
   cases h
   cases d<;>simp only[ZfH]at j<;>try (cases j;done)
   refine⟨by simp[Ky.val,Instr.sameNow],fun I=> ?_⟩
   rw[eq_of_beq I];rfl
  ·rw[if_neg J]at h;cases h
theorem ZgG {key:Ky} {d:TypeDesc} (hd:ZfH key d=true): ∀ {es:List (PV×PV)} {r:Option PV} {C:List MapEntry} (i:Nat),Zek key es=some r→VM φ w S es C→
 ∃I,Instr.findNow d key.val C i=some I∧(match r,I with|none,none=>True|some p,some (j,v)=>VRel φ w S p v|_,_=>False)
 | [],r,C,i,h,J=>by
  simp[Zek]at h;subst h
  simp only[VM]at J;subst J
  exact⟨none,rfl,trivial⟩
 |(k,v)::es,r,C,i,h,J=>by
  obtain⟨e,l',rfl,hk,R,hr⟩:=J
  rw[Zek]at h
  cases U:Zx5 key k with
  |none=>rw[U]at h;cases h
  |some b=>
   rw[U,Xab]at h
   obtain⟨h1,_⟩:=Zj9 hd U hk
   cases b with
   |true=>
    cases h
    exact⟨some (i,e.val),by simp only[Instr.findNow,h1],R⟩
   |false=>
    obtain⟨I,h2,h3⟩:=ZgG hd (i+1) h hr
    exact⟨I,by simp only[Instr.findNow,h1,h2],h3⟩
theorem ZhJ {t:TypeId} {p:PV} (h:ZcU P t=some p): ∃v,(zeroValue t).run P w= .ok v w∧VRel φ w S p v:=by
 unfold ZcU at h
 split at h
 ·rename_i i hi
  split at h
  ·rename_i v j
   exact⟨v,by simp[zeroValue,typeInfo,hi,j],ZiO h⟩
  ·cases h
 ·cases h
theorem Zrh {p:PV} {x:Sc} (h:Zyy p=some x) {v:Value} (j:VRel φ w S p v):v=x.val:=by
 cases p<;>simp only[Zyy]at h<;>first|(cases h;done)|(cases h;simpa only[VRel,Sc.val]using j)
theorem Zwh (x:Sc):VRel φ w S x.pv x.val:=by
 cases x<;>simp only[Sc.pv,Sc.val,VRel]
theorem Zjd {t:TypeId} (h:notIfc P t=true): ∃d,P.underlying t=some d∧ ∀x,d≠ .interface x:=by
 unfold notIfc at h
 split at h
 ·cases h
 ·rename_i d j hu
  exact⟨d,hu,fun x e=>j x e⟩
 ·cases h
theorem ZlJ {t:TypeId} {v p:PV} {a:Value} (h:Zgj P t (some v)=some p) (C:VRel φ w S v a): ∃u,(Instr.makeInterface t a).run P w= .ok u w∧VRel φ w S p u:=by
 unfold Zgj at h
 rw[Xab]at h
 cases j:notIfc P t with
 |false=>rw[j]at h;cases h
 |true=>
  rw[j,cond_true]at h
  obtain⟨x,I,rfl⟩:=Option.map_eq_some_iff.1 h
  have:=Zrh I C
  subst this
  obtain⟨d,hu,J⟩:=Zjd j
  refine⟨.iface t x.val, ?_,by simp only[VRel]⟩
  cases d<;>first|exact absurd rfl (J _)|simp[Instr.makeInterface,run_underlying hu]
theorem ZkP {j u:TypeId} {v p:PV} {ok:Bool} {a:Value} (h:Zdf P (some v) u ok=some p) (I:VRel φ w S v a): ∃r,(Instr.typeAssert a j u ok).run P w= .ok r w∧VRel φ w S p r:=by
 unfold Zdf at h
 rw[Xab]at h
 cases J:notIfc P u with
 |false=>rw[J]at h;cases h
 |true=>
  rw[J,cond_true]at h
  obtain⟨d,hu,R⟩:=Zjd J
  have fail:(bif ok then(ZcU P u).map fun z=>PV.tup [z, .bool false]else none)=some p→(∀f1 f2 f3,(Instr.typeAssert a j u ok).run P w=(if ok then(do let z ←zeroValue u;pure (.tuple #[z, .bool false]):Sem Value)else runtimePanic (.typeAssertion f1 f2 u f3)).run P w→ ∃r,(Instr.typeAssert a j u ok).run P w= .ok r w∧VRel φ w S p r):=by
   intro U f1 f2 f3 hr
   cases ok with
   |false=>cases U
   |true=>
    rw[cond_true]at U
    obtain⟨z,hz,rfl⟩:=Option.map_eq_some_iff.1 U
    obtain⟨zv,aa,ab⟩:=ZhJ (P:=P) (w:=w) (φ:=φ) (S:=S) hz
    refine⟨.tuple #[zv, .bool false], ?_, ?_⟩
    ·rw[hr];simp[aa]
    ·simp only[VRel];exact⟨_,rfl,_,_,rfl,ab,_,_,rfl,Zd0 _,by simp only[VL]⟩
  split at h
  ·rename_i t x
   simp only[VRel]at I
   subst I
   cases C:Nat.beq t u with
   |true=>
    rw[C,cond_true]at h
    have e:=Xam C
    subst e
    refine⟨if ok then .tuple #[x.val, .bool true]else x.val, ?_, ?_⟩
    ·cases d<;>first|exact absurd rfl (R _)|(simp[Instr.typeAssert,run_underlying hu];done)|(cases ok<;>simp[Instr.typeAssert,run_underlying hu])
    ·cases h
     cases ok with
     |false=>exact Zwh x
     |true=>simp only[cond_true,if_true,VRel];exact⟨_,rfl,_,_,rfl,Zwh x,_,_,rfl,Zd0 _,by simp only[VL]⟩
   |false=>
    rw[C,cond_false]at h
    have ad: ¬t=u:=fun e=>by rw[e,Nat.beq_refl]at C;cases C
    refine fail h (some j) (some t) "" ?_
    cases d<;>first|exact absurd rfl (R _)|simp[Instr.typeAssert,run_underlying hu,ad]
  ·simp only[VRel]at I
   subst I
   refine fail h (some j) none "" ?_
   cases d<;>first|exact absurd rfl (R _)|simp[Instr.typeAssert,run_underlying hu]
  ·cases h
theorem Zch {t:TypeId} {cs:List PV} (h:Zdn P t=some cs): ∃i v,P.info? t=some i∧i.zero=some v∧VL φ w S cs v.cells.toList∧(∀c∈cs,Zcr c=true):=by
 unfold Zdn at h
 split at h
 ·rename_i i hi
  split at h
  ·rename_i v j
   exact⟨i,v,hi,j,(Zc4 h).1,(Zc4 (φ:=φ) (w:=w) (S:=S) h).2⟩
  ·cases h
 ·cases h
theorem ZcH {k:TypeId} {b:Bool} {key:Ky} {d:TypeDesc} (C:P.underlying k=some d) (j:ZfH key d=true):(Instr.checkKey b 10000 k key.val).run P w= .ok () w:=by
 show(Instr.checkKey b (9999+1) k key.val).run P w=_
 rw[Instr.checkKey]
 cases key<;>cases d<;>simp only[ZfH]at j<;>first|(cases j;done)|simp[run_underlying C,Ky.val]
theorem Znr {x:PV} {a:Value} {es:List (PV×PV)} (hI:Inv φ H w S B) (h:Zmg H x=some es) (C:VRel φ w S x a):
 (a= .map none∧es=[])∨ ∃id l j clock,x= .map id∧φ id=some l∧H[id]? =some (.map es)∧a= .map (some l.b)∧w.heap[l.b]? =some (.map j clock)∧VM φ w S es j.toList:=by
 unfold Zmg at h
 split at h
 ·cases h;simp only[VRel]at C;exact .inl ⟨C,rfl⟩
 ·rename_i id
  split at h
  ·rename_i es' hm
   cases h
   simp only[VRel]at C
   obtain⟨l,I,rfl⟩:=C
   obtain⟨_,j,clock,J,R⟩:=hI.map id l _ I hm
   exact .inr ⟨id,l,j,clock,rfl,I,hm,rfl,J,R.1⟩
  ·cases h
 ·cases h
theorem Zjs {t:TypeId} {x k p:PV} {a j:Value} {ok:Bool} (hI:Inv φ H w S B) (h:Zen P H t x k ok=some p) (hx:VRel φ w S x a) (hj:VRel φ w S k j):
 ∃u,(Instr.lookup t a j ok).run P w= .ok u w∧VRel φ w S p u:=by
 unfold Zen at h
 cases hs:Zjy P t with
 |none=>simp[hs]at h
 |some e=>
  obtain⟨kt,hu,U⟩:=Zkc hs
  simp only[hs,Xab]at h
  cases I:keyOf k with
  |none=>simp[I]at h
  |some key=>
   have ad:=ZjD I
   subst ad
   have hj:=Zwa hj
   subst hj
   simp only[I,Xab]at h
   cases R:ZfH key e.1 with
   |false=>simp[R]at h
   |true=>
   rw[R,cond_true]at h
   cases hm:Zmg H x with
   |none=>simp[hm]at h
   |some es=>
   simp only[hm,Xab]at h
   cases hr:Zek key es with
   |none=>simp[hr]at h
   |some r=>
    simp only[hr,Xab]at h
    cases hz:ZcU P e.2 with
    |none=>simp[hz]at h
    |some zero=>
     simp only[hz,Xab,Xaf]at h
     subst h
     obtain⟨zv,aa,ab⟩:=ZhJ (P:=P) (w:=w) (φ:=φ) (S:=S) hz
     have J: ∀ (C:List MapEntry),Instr.findNow e.1 key.val C 0=some none→(Instr.findKey kt key.val C).run P w= .ok none w:=by
      intro C hf;simp[Instr.findKey,run_underlying U,hf]
     have found: ∀ (C:List MapEntry) jv,Instr.findNow e.1 key.val C 0=some (some jv)→(Instr.findKey kt key.val C).run P w= .ok (some jv) w:=by
      intro C jv hf;simp[Instr.findKey,run_underlying U,hf]
     have hzero:VRel φ w S (if ok=true then PV.tup [zero,PV.bool false]else zero) (if ok then .tuple #[zv, .bool false]else zv):=by
      cases ok
      ·simpa using ab
      ·simp only[if_true,VRel];exact⟨_,rfl,_,_,rfl,ab,_,_,rfl,Zd0 _,by simp only[VL]⟩
     rcases Znr hI hm hx with⟨rfl,rfl⟩|⟨id,l,C,clock,rfl,hl,ae,rfl,hb,hv⟩
     ·simp[Zek]at hr;subst hr
      exact⟨_,by simp[Instr.lookup,run_underlying hu,ZcH U R,J [] rfl,aa]<;>rfl,hzero⟩
     ·obtain⟨r',h1,h2⟩:=ZgG R 0 hr hv
      cases r with
      |none=>
       cases r' with
       |some _=>exact h2.elim
       |none=>exact⟨_,by simp[Instr.lookup,run_underlying hu,getObj,Sem.run,hb,ZcH U R,J _ h1,aa]<;>rfl,hzero⟩
      |some q=>
       cases r' with
       |none=>exact h2.elim
       |some jv=>
        obtain⟨j,v⟩:=jv
        refine⟨if ok then .tuple #[v, .bool true]else v,by simp[Instr.lookup,run_underlying hu,getObj,Sem.run,hb,ZcH U R,found _ _ h1], ?_⟩
        cases ok
        ·simpa using h2
        ·simp only[if_true,VRel];exact⟨_,rfl,_,_,rfl,h2,_,_,rfl,Zd0 _,by simp only[VL]⟩
end
variable [Laid]
open Go.RowKit
section
variable {P : Program} {w : World} {φ : Phi} {S : Nat → Prop} {B : Nat} {H : List Mem}
theorem Zgo {α:Type} (l:List α) (off:Nat) (cs:List α) (h:off+cs.length≤l.length):(splice l off cs).length=l.length:=by
 simp[splice];omega
theorem Zg4 {α:Type} (l:List α) (off:Nat):splice l off []=l:=by simp[splice]
theorem ZnF {α:Type} (l:List α) (off:Nat) (c:α) (cs:List α) (h:off<l.length):splice l off (c::cs)=splice (l.set off c) (off+1) cs:=by
 unfold splice
 rw[XaQ (by simpa using h)]
 simp only[List.getElem_set_self,XbA (Xan off),Xbn,List.singleton_append,XbH,List.nil_append]
 rw[Xbr (by omega)]
 simp only[Xap]
 rw[show off+1+cs.length=off+(cs.length+1)from by omega]
theorem Zjk: ∀ (vs:List Value) (off k:Nat) (cs:Array Value),off+k+vs.length≤cs.size→
 ((vs.zipIdx k).foldl (fun(cs:Array Value) (x:Value×Nat)=>cs.setIfInBounds (off+x.2) x.1) cs).toList=splice cs.toList (off+k) vs
 | [],off,k,cs,_=>by simp[Zg4]
 |v::vs,off,k,cs,h=>by
  simp only[Xap]at h
  simp only[List.zipIdx_cons,List.foldl_cons]
  rw[Zjk vs off (k+1) _ (by simp;omega)]
  rw[ZnF _ _ _ _ (by simp;omega)]
  simp[Xbt]
theorem ZhQ (v:Value) (off:Nat) (cs:Array Value) (h:off+v.cells.size≤cs.size):
 (v.cells.zipIdx.foldl (fun cs (c,j)=>cs.setIfInBounds (off+j) c) cs).toList=splice cs.toList off v.cells.toList:=by
 have:=Zjk v.cells.toList off 0 cs (by simpa using h)
 rw[←Array.foldl_toList]
 simpa using this
theorem VL.splice {l:List PV} {vs:List Value} {cs:List PV} {us:List Value} {off:Nat} (h:VL φ w S l vs) (j:VL φ w S cs us):VL φ w S (splice l off cs) (splice vs off us):=by
 unfold Am.splice
 rw[VL.length j]
 exact VL.append (VL.take off h) (VL.append j (VL.drop _ h))
theorem Zhb {α:Type} {l:List α} {off:Nat} {cs:List α} {x:α} (h:x∈splice l off cs):x∈l∨x∈cs:=by
 unfold splice at h
 simp only[XaA]at h
 rcases h with h|h|h
 ·exact .inl (XaH h)
 ·exact .inr h
 ·exact .inl (Xbl h)
theorem ZfI {p:PV} {v:Value} (h:VRel φ w S p v) (j: ∀vs,p≠ .tup vs):VL φ w S (cellsOf p) v.cells.toList∧(∀c∈cellsOf p,Zcr c=true):=by
 have one: ∀ {q:PV} {u:Value},VRel φ w S q u→Zcr q=true→u.cells= #[u]→VL φ w S [q] u.cells.toList∧(∀c∈ [q],Zcr c=true):=by
  intro q u C I J
  rw[J]
  exact⟨⟨u,[],rfl,C,by simp only[VL]⟩,by simpa using I⟩
 cases p with
 |agg cs=>
  simp only[VRel]at h
  obtain⟨arr,rfl,R,U⟩:=h
  exact⟨U,R⟩
 |tup vs=>exact absurd rfl (j vs)
 |_=>
  refine one h rfl ?_
  have:=ZoJ rfl h
  cases v<;>first|rfl|(simp[Value.oneCell']at this)
def Zt4 (φ:Phi) (w:World) (S:Nat→Prop):List (Nat×PV)→List (Nat×Value)→Prop
 | [],l=>l=[]
 |(i,p)::r,l=> ∃v j,l=(i,v)::j∧VL φ w S (cellsOf p) v.cells.toList∧(∀c∈cellsOf p,Zcr c=true)∧Zt4 φ w S r j
theorem Zeu {place:Nat→Option (Nat×Nat)}: ∀ {parts:List (Nat×PV)} {ps:List (Nat×Value)} {cs I:List PV} {arr:Array Value},ZcS place cs parts=some I→Zt4 φ w S parts ps→VL φ w S cs arr.toList→(∀c∈cs,Zcr c=true)→
 ∃C,Instr.fill place arr ps=some C∧VL φ w S I C.toList∧(∀c∈I,Zcr c=true)
 | [],ps,cs,I,arr,h,hp,R,U=>by
  simp[ZcS]at h;subst h
  simp only[Zt4]at hp;subst hp
  exact⟨arr,rfl,R,U⟩
 |(i,p)::r,ps,cs,I,arr,h,hp,R,U=>by
  obtain⟨v,l',rfl,hc,ho,hr⟩:=hp
  simp only[ZcS]at h
  cases J:place i with
  |none=>simp[J]at h
  |some on=>
   obtain⟨off,n⟩:=on
   simp only[J,Xab]at h
   obtain⟨⟨hl,hle⟩,h⟩:=Zar h
   have aa:v.cells.size=n:=by have:=VL.length hc;simpa[hl]using this
   have ae:arr.size=cs.length:=by have:=VL.length R;simpa using this
   have ab:=ZhQ v off arr (by omega)
   obtain⟨C,h2,h3,h4⟩:=Zeu (arr:=v.cells.zipIdx.foldl (fun cs (c,j)=>cs.setIfInBounds (off+j) c) arr) h hr (by rw[ab];exact VL.splice R hc)
    (fun c ad=>(Zhb ad).elim (U c) (ho c))
   refine⟨C, ?_,h3,h4⟩
   simp only[Instr.fill,J]
   rw[if_neg (by simp[aa];omega)]
   exact h2
theorem ZdD {α:Type} {z:Nat}: ∀ (es:List (List α)) (i:Nat) (c:List α),(∀x∈es,x.length=z)→c.length=z→i<es.length→(es.set i c).flatten=splice es.flatten (i*z) c
 | [],i,c,_,_,hi=>by simp at hi
 |e::es,0,c,j,C,_=>by
  have he:e.length=z:=j e Xah
  simp[splice,C,←he]
 |e::es,i+1,c,j,C,hi=>by
  have he:e.length=z:=j e Xah
  simp only[List.set_cons_succ,XbK]
  rw[ZdD es i c (fun x I=>j x (Xai _ I)) C (by simpa using hi)]
  unfold splice
  have J:(i+1)*z=e.length+i*z:=by rw[Xa4,he];omega
  rw[J,List.take_length_add_append,show e.length+i*z+c.length=e.length+(i*z+c.length)from by omega,List.drop_length_add_append]
  simp
theorem ZaU {α:Type} {z:Nat}: ∀ (es:List (List α)),(∀x∈es,x.length=z)→es.flatten.length=es.length*z
 | [],_=>by simp
 |e::es,j=>by
  simp only[XbK,Xaw,Xap]
  rw[ZaU es (fun x C=>j x (Xai _ C)),j e Xah,Xa4];omega
theorem Zf9 {z:Nat}: ∀ {parts:List (Nat×PV)} {ps:List (Nat×Value)} {es es':List (List PV)} {arr:Array Value},ZcQ z es parts=some es'→Zt4 φ w S parts ps→VL φ w S es.flatten arr.toList→(∀c∈es.flatten,Zcr c=true)→(∀x∈es,x.length=z)→
 ∃C,Instr.fill (fun i=>some (i*z,z)) arr ps=some C∧VL φ w S es'.flatten C.toList∧(∀c∈es'.flatten,Zcr c=true)∧(∀x∈es',x.length=z)∧es'.length=es.length
 | [],ps,es,es',arr,h,hp,R,U,J=>by
  simp[ZcQ]at h;subst h
  simp only[Zt4]at hp;subst hp
  exact⟨arr,rfl,R,U,J,rfl⟩
 |(i,p)::r,ps,es,es',arr,h,hp,R,U,J=>by
  obtain⟨v,l',rfl,hc,ho,hr⟩:=hp
  simp only[ZcQ]at h
  obtain⟨⟨hl,hi⟩,h⟩:=Zar h
  have aa:v.cells.size=z:=by have:=VL.length hc;simpa[hl]using this
  have af:arr.size=es.length*z:=by have:=VL.length R;rw[ZaU es J]at this;simpa using this
  have hb:i*z+z≤es.length*z:=by rw[←Nat.succ_mul];exact Xa8 _ hi
  have ab:=ZhQ v (i*z) arr (by omega)
  have I:=ZdD es i (cellsOf p) J hl hi
  have ad: ∀x∈es.set i (cellsOf p),x.length=z:=by
   intro x hx
   rcases Xbk hx with hx|rfl
   ·exact J x hx
   ·exact hl
  obtain⟨C,h2,h3,h4,h5,h6⟩:=Zf9 (arr:=v.cells.zipIdx.foldl (fun cs (c,j)=>cs.setIfInBounds (i*z+j) c) arr) h hr
   (by rw[ab,I];exact VL.splice R hc) (by rw[I];exact fun c ae=>(Zhb ae).elim (U c) (ho c)) ad
  refine⟨C, ?_,h3,h4,h5,by rw[h6,XaN]⟩
  simp only[Instr.fill]
  rw[if_neg (by simp[aa];omega)]
  exact h2
theorem ZpY {v p:PV} (h:ZhS v=some p):p=v∧ ∀vs,p≠ .tup vs:=by
 cases v<;>simp[ZhS]at h<;>subst h<;>exact⟨rfl,by simp⟩
theorem Zfl {x:Option PV} {p:PV} (h:x.bind ZhS=some p):x=some p∧ ∀vs,p≠ .tup vs:=by
 cases x with
 |none=>simp at h
 |some v=>simp at h;obtain⟨rfl,j⟩:=ZpY h;exact⟨rfl,j⟩
theorem Zeo {tm:List (Nat×PV)} {a:Act} {N:Nat} (I:TRel φ w S N tm a): ∀ {parts:List (Nat×Operand)} {ps:List (Nat×PV)},ZaV (fun x:Nat×Operand=>((ev tm x.2).bind ZhS).map fun v=>(x.1,v)) parts=some ps→
 Zt4 φ w S ps (parts.map fun(i,x)=>(i,a.eval x))
 | [],ps,h=>by simp[Zb6]at h;subst h;simp[Zt4]
 |(i,x)::parts,ps,h=>by
  obtain⟨b,s,j,J,rfl⟩:=ZaD h
  cases he:(ev tm x).bind ZhS with
  |none=>simp[he]at j
  |some v=>
   simp[he]at j;subst j
   obtain⟨C,R⟩:=Zfl he
   have:=ZfI (ZaA I C) R
   exact⟨a.eval x,_,rfl,this.1,this.2,Zeo I J⟩
theorem ZcT (z:Array Value) (n:Nat):(madeCells z (n*z.size)).toList=(List.replicate n z.toList).flatten:=by
 induction n with
 |zero=>simp[madeCells]
 |succ n I=>
  rw[List.replicate_succ,XbK,←I]
  have e:(n+1)*z.size=z.size+n*z.size:=by rw[Xa4];omega
  have C: ∀m,(madeCells z m).toList=(List.range m).map (z[· % z.size]!):=by intro m;simp[madeCells]
  rw[C,C,e,List.range_add,XbM,List.map_map]
  congr 1
  ·apply List.ext_getElem
   ·simp
   ·intro i R J
    have hi:i<z.size:=by simpa using J
    simp[Xbc hi,hi]
  ·apply List.map_congr_left
   intro j _
   simp[Function.comp]
theorem Zi7: ∀ (j:List Field) (ns:List Nat),ZaV (fun f:Field=>Za1 P f.type) j=some ns→
 ∃places:List (Nat×Nat),(j.mapM fun f=>(do pure (f.offset,←sizeOf f.type):Sem (Nat×Nat))).run P w= .ok places w∧ ∀i:Nat,places[i]? =(j[i]?).bind fun f:Field=>(Za1 P f.type).map fun n=>(f.offset,n)
 | [],ns,h=>⟨[],rfl,by simp⟩
 |f::j,ns,h=>by
  obtain⟨b,s,C,I,rfl⟩:=ZaD h
  obtain⟨pl,J,R⟩:=Zi7 j s I
  refine⟨(f.offset,b)::pl, ?_, ?_⟩
  ·rw[List.mapM_cons]
   simp only[Sem.run_bind,ZaH C,Result.andThen_ok,Sem.run_pure,J]
  ·intro i
   cases i with
   |zero=>simp[C]
   |succ i=>simp[R]
theorem Zls {t:TypeId} {parts:List (Nat×PV)} {ps:Array (Nat×Value)} {p:PV} (h:ZgR P t parts=some p) (hp:Zt4 φ w S parts ps.toList):
 ∃u,(Instr.build t ps).run P w= .ok u w∧VRel φ w S p u:=by
 unfold ZgR at h
 cases hz:Zdn P t with
 |none=>simp[hz]at h
 |some zero=>
  simp only[hz,Xab]at h
  obtain⟨i,v,hi,aa,hv,ho⟩:=Zch (w:=w) (φ:=φ) (S:=S) hz
  have J:(zeroValue t).run P w= .ok v w:=by simp[zeroValue,typeInfo,hi,aa]
  split at h
  ·rename_i R hu
   cases j:ZcS (fun i:Nat=>(R[i]?).bind fun f:Field=>(Za1 P f.type).map fun n=>(f.offset,n)) zero parts with
   |none=>simp[j]at h
   |some cs=>
    simp only[j,Xab]at h
    cases C:ZaV (fun f:Field=>Za1 P f.type) R.toList with
    |none=>simp[C]at h
    |some ns=>
     simp only[C,Xak,Xaf]at h
     subst h
     obtain⟨pl,ab,ad⟩:=Zi7 (P:=P) (w:=w) R.toList ns C
     obtain⟨arr,h1,h2,h3⟩:=Zeu j hp hv ho
     have U:(fun i:Nat=>(R[i]?).bind fun f:Field=>(Za1 P f.type).map fun n=>(f.offset,n))=(pl.toArray[·]?):=by
      funext i
      simp[ad]
     rw[U]at h1
     refine⟨.agg arr, ?_,by simp only[VRel];exact⟨arr,rfl,h3,h2⟩⟩
     have ae:(R.mapM fun f=>(do pure (f.offset,←sizeOf f.type):Sem (Nat×Nat))).run P w= .ok pl.toArray w:=by
      rw[Array.mapM_eq_mapM_toList]
      simp only[Sem.run_map,ab,Result.andThen_ok]
     simp only[Instr.build,Sem.run_bind,J,Result.andThen_ok,Zau hu,ae,h1,Sem.run_pure]
  ·rename_i n e hu
   cases I:Za1 P e with
   |none=>simp[I]at h
   |some n=>
    simp only[I,Xab]at h
    cases j:ZcS (fun i=>some (i*n,n)) zero parts with
    |none=>simp[j]at h
    |some cs=>
     simp only[j,Xak,Xaf]at h
     subst h
     obtain⟨arr,h1,h2,h3⟩:=Zeu j hp hv ho
     refine⟨.agg arr, ?_,by simp only[VRel];exact⟨arr,rfl,h3,h2⟩⟩
     simp only[Instr.build,Sem.run_bind,J,Result.andThen_ok,Zau hu,ZaH I,h1,Sem.run_pure]
  ·cases h
theorem Zd1 {t e:TypeId} (h:Zip P t=some e):P.underlying t=some (.slice e):=by
 unfold Zip at h
 split at h
 ·cases h;assumption
 ·cases h
theorem ZgK {t:TypeId} {n:Nat} {parts:List (Nat×PV)} {ps:Array (Nat×Value)} {m:Mem} (h:Zbm P t n parts=some m) (hp:Zt4 φ w S parts ps.toList):
 ∃es z arr e,m= .row es z true∧(Instr.buildSlice t n ps).run P w= .ok (.slice (some ⟨w.heap.size,0,none⟩) n n) (w.alloc (.cells arr e))∧es.length=n∧VL φ w S es.flatten arr.toList∧(∀c∈es.flatten,Zcr c=true)∧(∀x∈es,x.length=z):=by
 unfold Zbm at h
 cases he:Zip P t with
 |none=>simp[he]at h
 |some e=>
  have hu:=Zd1 he
  simp only[he,Xab]at h
  cases U:Za1 P e with
  |none=>simp[U]at h
  |some z=>
   simp only[U,Xab]at h
   cases j:Zdn P e with
   |none=>simp[j]at h
   |some zero=>
    simp only[j,Xab]at h
    obtain⟨⟨I,ak,J,aj⟩,h⟩:=Zar h
    by_cases aa:n=0
    ·subst aa
     have ab:parts=[]:=I.elim (fun h=>absurd h (Nat.lt_irrefl 0)) id
     subst ab
     simp only[List.replicate_zero,ZcQ,Xak,Xaf]at h
     subst h
     have ad:ps= #[]:=by
      apply Array.ext'
      cases ae:ps.toList with
      |nil=>rfl
      |cons x r=>rw[ae]at hp;simp[Zt4]at hp
     subst ad
     refine⟨[],z, #[],e,rfl, ?_,rfl,by simp[VL],by simp,by simp⟩
     unfold Instr.buildSlice
     simp[Zau hu,ZaH U,Instr.fill,newRow,run_newObj]
     rw[show Array.range 0= #[]from by apply Array.ext';simp[Array.toList_range],Array.map_empty]
    have al:0<n:=by omega
    cases hf:ZcQ z (List.replicate n zero) parts with
    |none=>simp[hf]at h
    |some es=>
     simp only[hf,Xak,Xaf]at h
     subst h
     obtain⟨i,v,hi,af,hv,ho⟩:=Zch (w:=w) (φ:=φ) (S:=S) j
     have ag:(zeroValue e).run P w= .ok v w:=by simp[zeroValue,typeInfo,hi,af]
     have ah:v.cells.size=z:=by have:=VL.length hv;simpa[J]using this
     have R: ∀k,VL φ w S (List.replicate k zero).flatten (List.replicate k v.cells.toList).flatten:=by
      intro k
      induction k with
      |zero=>simp[VL]
      |succ k ih=>simp only[List.replicate_succ,XbK];exact VL.append hv ih
     have C:(madeCells v.cells (n*z)).toList=(List.replicate n v.cells.toList).flatten:=by rw[←ah];exact ZcT _ _
     obtain⟨arr,h1,h2,h3,h4,h5⟩:=Zf9 (arr:=madeCells v.cells (n*z)) hf hp (by rw[C];exact R n)
      (by intro c hc;simp only[List.mem_flatten,List.mem_replicate]at hc;obtain⟨l,⟨_,rfl⟩,hc⟩:=hc;exact ho c hc)
      (by intro x hx;rw[(List.mem_replicate.1 hx).2];exact J)
     refine⟨es,z,arr,e,rfl, ?_,by simpa using h5,h2,h3,h4⟩
     have ai: ¬n*z=0:=by
      intro hh;rcases Nat.mul_eq_zero.1 hh with h|h<;>omega
     have hle: ¬n*z>2^24:=by have:(2:Nat)^24=16777216:=by decide
                             omega
     unfold Instr.buildSlice
     simp only[Sem.run_bind,Zau hu,Result.andThen_ok,ZaH U,if_neg hle,if_neg ai,Sem.run_pure,ag]
     unfold madeCells at h1
     simp only[h1,newRow,Sem.run_bind,run_newObj,Result.andThen_ok,Sem.run_pure]
     rfl
end
variable [Laid]
open Go.RowKit
section
variable {P : Program} {w : World} {φ : Phi} {S : Nat → Prop} {B : Nat} {H : List Mem}
def Zt7 (φ:Phi) (ids:List Nat) (b:Nat):Prop:= ∃id∈ids,∃l,φ id=some l∧l.b=b
def ZcR (S:Nat→Prop) (φ:Phi) (ids:List Nat) (b:Nat):Prop:=S b∨Zt7 φ ids b
theorem Zn4 {f:PV→Option PV} {es es':List (List PV)} {z:Nat} (h:ZaV (ZaV f) es=some es') (j: ∀x∈es,x.length=z): ∀x∈es',x.length=z:=by
 intro x C
 obtain⟨y,I,he⟩:=ZkA h x C
 rw[Zef he];exact j y I
section
variable {ids : List Nat} {n : Nat}
theorem Zc9 (ih: ∀v q c,exp n H v=some q→VRel φ w S v c→(∀id∈rch n H v,id∈ids)→IRel w (ZcR S φ ids) q c∧(Zcr v=true→Zcr q=true)):
 ∀ (vs j:List PV) (cs:List Value),ZaV (exp n H) vs=some j→VL φ w S vs cs→(∀id∈vs.flatMap (rch n H),id∈ids)→LRel w (ZcR S φ ids) j cs∧((∀v∈vs,Zcr v=true)→ ∀q∈j,Zcr q=true)
 | [],j,cs,h,C,_=>by simp[Zb6]at h;subst h;simp only[VL]at C;exact⟨by simp only[LRel];exact C,by simp⟩
 |v::vs,j,cs,h,C,hr=>by
  obtain⟨q,s,h1,h2,rfl⟩:=ZaD h
  simp only[VL]at C
  obtain⟨c,r,rfl,I,J⟩:=C
  have R: ∀id∈rch n H v,id∈ids:=fun id hid=>hr id (by simp[Xbu,hid])
  have U: ∀id∈vs.flatMap (rch n H),id∈ids:=fun id hid=>hr id (by rw[Xbu];exact Xbi _ hid)
  obtain⟨a1,a2⟩:=ih v q c h1 I R
  obtain⟨b1,b2⟩:=Zc9 ih vs s r h2 J U
  refine⟨by simp only[LRel];exact⟨c,r,rfl,a1,b1⟩,fun ho x hx=> ?_⟩
  rcases Xav.1 hx with rfl|hx
  ·exact a2 (ho v Xah)
  ·exact b2 (fun y hy=>ho y (Xai _ hy)) x hx
theorem Zhi (U: ∀v q c,exp n H v=some q→VRel φ w S v c→(∀id∈rch n H v,id∈ids)→IRel w (ZcR S φ ids) q c∧(Zcr v=true→Zcr q=true)):
 ∀ (vs j:List PV) (b o:Nat),ZaV (exp n H) vs=some j→VC φ w S vs b o→(∀id∈vs.flatMap (rch n H),id∈ids)→CsRel w (ZcR S φ ids) j b o
 | [],j,b,o,h,hv,_=>by simp[Zb6]at h;subst h;simp only[CsRel]
 |v::vs,j,b,o,h,hv,hr=>by
  obtain⟨q,s,h1,h2,rfl⟩:=ZaD h
  obtain⟨⟨ho,c,hc,C⟩,I⟩:=hv
  have J: ∀id∈rch n H v,id∈ids:=fun id hid=>hr id (by simp[Xbu,hid])
  have R: ∀id∈vs.flatMap (rch n H),id∈ids:=fun id hid=>hr id (by rw[Xbu];exact Xbi _ hid)
  obtain⟨a1,a2⟩:=U v q c h1 C J
  simp only[CsRel]
  exact⟨⟨a2 ho,c,hc,a1⟩,Zhi U vs s b (o+1) h2 I R⟩
theorem Zke (R: ∀v q c,exp n H v=some q→VRel φ w S v c→(∀id∈rch n H v,id∈ids)→IRel w (ZcR S φ ids) q c∧(Zcr v=true→Zcr q=true)):
 ∀ (es j:List (List PV)) (b o:Nat),ZaV (ZaV (exp n H)) es=some j→VE φ w S es b o→(∀id∈es.flatMap (fun c=>c.flatMap (rch n H)),id∈ids)→EsRel w (ZcR S φ ids) j b o
 | [],j,b,o,h,C,_=>by simp[Zb6]at h;subst h;simp only[EsRel]
 |c::es,j,b,o,h,C,U=>by
  obtain⟨q,s,h1,h2,rfl⟩:=ZaD h
  have I: ∀id∈c.flatMap (rch n H),id∈ids:=fun id hid=>U id (by rw[Xbu];exact Xbf _ hid)
  have J: ∀id∈es.flatMap (fun c=>c.flatMap (rch n H)),id∈ids:=fun id hid=>U id (by rw[Xbu];exact Xbi _ hid)
  simp only[EsRel]
  exact⟨Zhi R c q b o h1 C.1 I,by rw[Zef h1];exact Zke R es s b _ h2 C.2 J⟩
end
theorem Ze4 (hI:Inv φ H w S B) (ids:List Nat): ∀ (n:Nat) (v q:PV) (c:Value),exp n H v=some q→VRel φ w S v c→(∀id∈rch n H v,id∈ids)→IRel w (ZcR S φ ids) q c∧(Zcr v=true→Zcr q=true)
 |0,v,q,c,h,_,_=>by simp[exp]at h
 |n+1,v,q,c,h,C,hr=>by
  have ih:=Ze4 hI ids n
  have af: ∀b,S b→ZcR S φ ids b∧w.heap[b]? =w.heap[b]? :=fun b hb=>⟨.inl hb,rfl⟩
  cases v with
  |nils=>simp only[exp,Xaf]at h;subst h;exact⟨by simpa only[IRel,VRel]using C,fun _=>rfl⟩
  |bool b=>simp only[exp,Xaf]at h;subst h;exact⟨by simpa only[IRel,VRel]using C,fun _=>rfl⟩
  |int k m=>simp only[exp,Xaf]at h;subst h;exact⟨by simpa only[IRel,VRel]using C,fun _=>rfl⟩
  |str s=>simp only[exp,Xaf]at h;subst h;exact⟨by simpa only[IRel,VRel]using C,fun _=>rfl⟩
  |nilp=>simp only[exp,Xaf]at h;subst h;exact⟨by simpa only[IRel,VRel]using C,fun _=>rfl⟩
  |nilf=>simp only[exp,Xaf]at h;subst h;exact⟨by simpa only[IRel,VRel]using C,fun _=>rfl⟩
  |nilm=>simp only[exp,Xaf]at h;subst h;exact⟨by simpa only[IRel,VRel]using C,fun _=>rfl⟩
  |ifc t x=>simp only[exp,Xaf]at h;subst h;exact⟨by simpa only[IRel,VRel]using C,fun _=>rfl⟩
  |nili=>simp only[exp,Xaf]at h;subst h;exact⟨by simpa only[IRel,VRel]using C,fun _=>rfl⟩
  |lst es=>simp only[exp,Xaf]at h;subst h;simp only[VRel]at C;exact⟨IRel.mono af _ _ C,fun _=>rfl⟩
  |box cs r=>simp only[exp,Xaf]at h;subst h;simp only[VRel]at C;exact⟨IRel.mono af _ _ C,fun _=>rfl⟩
  |map id=>simp[exp]at h
  |ref id i l room=>
   simp only[exp]at h
   split at h
   ·rename_i es z m hm
    obtain⟨hle,h⟩:=Zar h
    cases he:ZaV (ZaV (exp n H)) ((es.drop i).take l)with
    |none=>simp[he]at h
    |some qs=>
     simp only[he,Xak,Xaf]at h
     subst h
     refine⟨?_,fun _=>rfl⟩
     simp only[VRel]at C
     obtain⟨lc,ad,cp,U,rfl,ab,ae,I⟩:=C
     have ag:l≤cp:=XaM ab ae
     have hlen:((es.drop i).take l).length=l:=by rw[Xas,XaZ];omega
     have ah:qs.length=l:=by rw[Zef he,hlen]
     have J: ∀x∈id::((es.drop i).take l).flatMap (fun c=>c.flatMap (rch n H)),x∈ids:=by
      intro x I;apply hr;simp only[rch,hm];exact I
     have j:=hI.row id lc es z m U hm
     simp only[IRel]
     refine⟨ad,cp,by rw[ah],by rw[ah];exact ag, ?_⟩
     rcases I with⟨h0,_⟩|⟨rfl,_⟩
     ·left;exact XaY.1 (by omega)
     ·right
      refine⟨lc.b,lc.o+i*lc.z,z,rfl, .inr ⟨id,J id Xah,lc,U,rfl⟩,Zn4 he (fun x I=>j.wid x (Xbl (XaH I))), ?_⟩
      refine Zke ih _ _ _ _ he ?_ (fun x I=>J x (Xai _ I))
      rw[j.zs]
      exact VE.take l (VE.drop i j.wid (by omega) j.cells)
   ·cases h
  |ptr id i r=>
   simp only[exp]at h
   split at h
   ·rename_i es z m hm
    cases hc:es[i]? with
    |none=>simp[hc]at h
    |some cc=>
     simp only[hc,Xab]at h
     cases he:ZaV (exp n H) cc with
     |none=>simp[he]at h
     |some qs=>
      simp only[he,Xak,Xaf]at h
      subst h
      refine⟨?_,fun _=>rfl⟩
      simp only[VRel]at C
      obtain⟨lc,U,rfl⟩:=C
      have J: ∀x∈id::cc.flatMap (rch n H),x∈ids:=by
       intro x I;apply hr;simp only[rch,hm,hc,Xby];exact I
      have j:=hI.row id lc es z m U hm
      simp only[IRel]
      refine⟨lc.b,lc.o+i*lc.z,rfl, .inr ⟨id,J id Xah,lc,U,rfl⟩, ?_⟩
      refine Zhi ih _ _ _ _ he ?_ (fun x I=>J x (Xai _ I))
      rw[j.zs]
      exact VE.get j.wid j.cells hc
   ·cases h
  |func f a c'=>
   simp only[exp]at h
   cases R:ZaV (exp n H) a with
   |none=>simp[R]at h
   |some a'=>
    cases h2:ZaV (exp n H) c' with
    |none=>simp[R,h2]at h
    |some c2=>
     simp only[R,h2,Xab,Xak,Xaf]at h
     subst h
     simp only[VRel]at C
     obtain⟨fs,cs,rfl,aa,ai⟩:=C
     have J: ∀x∈a.flatMap (rch n H)++c'.flatMap (rch n H),x∈ids:=by
      intro x I;apply hr;simp only[rch];exact I
     refine⟨?_,fun _=>rfl⟩
     simp only[IRel]
     exact⟨fs,cs,rfl,(Zc9 ih a a' _ R aa fun x I=>J x (Xbf _ I)).1,(Zc9 ih c' c2 _ h2 ai fun x I=>J x (Xbi _ I)).1⟩
  |agg cs=>
   simp only[exp]at h
   cases R:ZaV (exp n H) cs with
   |none=>simp[R]at h
   |some qs=>
    simp only[R,Xak,Xaf]at h
    subst h
    simp only[VRel]at C
    obtain⟨arr,rfl,ho,aa⟩:=C
    obtain⟨a1,a2⟩:=Zc9 ih cs qs _ R aa (fun x I=>hr x (by simp only[rch];exact I))
    exact⟨by simp only[IRel];exact⟨arr,rfl,a2 ho,a1⟩,fun h=>by simp[Zcr]at h⟩
  |tup cs=>
   simp only[exp]at h
   cases R:ZaV (exp n H) cs with
   |none=>simp[R]at h
   |some qs=>
    simp only[R,Xak,Xaf]at h
    subst h
    simp only[VRel]at C
    obtain⟨arr,rfl,aa⟩:=C
    obtain⟨a1,a2⟩:=Zc9 ih cs qs _ R aa (fun x I=>hr x (by simp only[rch];exact I))
    exact⟨by simp only[IRel];exact⟨arr,rfl,a1⟩,fun h=>by simp[Zcr]at h⟩
theorem Zpt: ∀ (n:Nat) (v:PV) (id:Nat),id∈rch n H v→id<H.length
 |0,v,id,h=>by simp[rch]at h
 |n+1,v,id,h=>by
  have J:=Zpt n
  have C: ∀ (l:List PV),id∈l.flatMap (rch n H)→id<H.length:=by
   intro l C;obtain⟨x,_,I⟩:=Xbd.1 C;exact J x id I
  cases v<;>simp only[rch]at h<;>try (simp at h;done)
  ·rename_i i j r
   split at h
   ·rename_i hm
    rcases Xav.1 h with rfl|h
    ·exact(Xae.1 hm).1
    ·exact C _ h
   ·simp at h
  ·rename_i i j r
   split at h
   ·rename_i hm
    rcases Xav.1 h with rfl|h
    ·exact(Xae.1 hm).1
    ·obtain⟨x,_,I⟩:=Xbd.1 h;exact C _ I
   ·simp at h
  ·rcases XaA.1 h with h|h<;>exact C _ h
  ·exact C _ h
  ·exact C _ h
theorem Zkr: ∀ (n:Nat) (v:PV) (id:Nat),id∈rch n H v→ ∃es z m,H[id]? =some (.row es z m)
 |0,v,id,h=>by simp[rch]at h
 |n+1,v,id,h=>by
  have J:=Zkr n
  have C: ∀ (l:List PV),id∈l.flatMap (rch n H)→ ∃es z m,H[id]? =some (.row es z m):=by
   intro l C;obtain⟨x,_,I⟩:=Xbd.1 C;exact J x id I
  cases v<;>simp only[rch]at h<;>try (simp at h;done)
  ·rename_i i j r
   split at h
   ·rename_i hm
    rcases Xav.1 h with rfl|h
    ·exact⟨_,_,_,hm⟩
    ·exact C _ h
   ·simp at h
  ·rename_i i j r
   split at h
   ·rename_i hm
    rcases Xav.1 h with rfl|h
    ·exact⟨_,_,_,hm⟩
    ·obtain⟨x,_,I⟩:=Xbd.1 h;exact C _ I
   ·simp at h
  ·rcases XaA.1 h with h|h<;>exact C _ h
  ·exact C _ h
  ·exact C _ h
def ZhG:PV→Bool
 | .bool _| .int _ _| .str _| .nilp| .nils| .nilf| .nilm| .nili| .ifc _ _=>true
 | .lst es=>es.isEmpty
 |_=>false
theorem Zba {S':Nat→Prop} {p:PV} {v:Value} (h:ZhG p=true) (j:IRel w S p v):IRel w S' p v:=by
 cases p<;>simp only[ZhG]at h<;>try (simp at h;done)
 all_goals first
  |(simpa only[IRel]using j)
  |(simp only[IRel]at j⊢
    have he:_=[]:=XbN.1 h
    obtain⟨a,c,C,I,_⟩:=j
    exact⟨a,c,C,I, .inl he⟩)
theorem Zjf {S':Nat→Prop}: ∀ {ps:List PV} {vs:List Value},ps.all ZhG=true→LRel w S ps vs→LRel w S' ps vs
 | [],_,_,j=>by simpa only[LRel]using j
 |p::ps,_,h,j=>by
  simp only[XbL,Xag]at h
  simp only[LRel]at j⊢
  obtain⟨v,r,rfl,C,I⟩:=j
  exact⟨v,r,rfl,Zba h.1 C,Zjf h.2 I⟩
def ZmI:PV→Bool
 | .agg cs=>cs.all ZhG
 |p=>ZhG p
theorem Zic {S':Nat→Prop} {p:PV} {v:Value} (h:ZmI p=true) (j:IRel w S p v):IRel w S' p v:=by
 cases p with
 |agg cs=>
  simp only[ZmI]at h
  simp only[IRel]at j⊢
  obtain⟨arr,rfl,C,j⟩:=j
  exact⟨arr,rfl,C,Zjf h j⟩
 |_=>exact Zba h j
theorem ZhM {S':Nat→Prop}: ∀ {ps:List PV} {vs:List Value},ps.all ZmI=true→LRel w S ps vs→LRel w S' ps vs
 | [],_,_,j=>by simpa only[LRel]using j
 |p::ps,_,h,j=>by
  simp only[XbL,Xag]at h
  simp only[LRel]at j⊢
  obtain⟨v,r,rfl,C,I⟩:=j
  exact⟨v,r,rfl,Zic h.1 C,ZhM h.2 I⟩
theorem Zqq {S':Nat→Prop} {p:PV} {v:Value} (h:Zha p=true) (j:IRel w S p v):IRel w S' p v:=by
 cases p with
 |agg cs=>
  refine Zic ?_ j
  simp only[Zha]at h
  simp only[ZmI]
  rw[Xau]at h⊢
  intro x C
  have:=h x C
  cases x<;>simp_all [ZhG]
 |tup vs=>
  simp only[IRel]at j⊢
  obtain⟨arr,rfl,j⟩:=j
  refine⟨arr,rfl,ZhM ?_ j⟩
  simp only[Zha]at h
  rw[Xau]at h⊢
  intro x C
  have:=h x C
  cases x<;>simp_all [ZhG,ZmI]
  all_goals (
   rename_i cs
   intro y I
   have:=this y I
   cases y<;>simp_all [ZhG])
 |bool b=>exact Zba rfl j
 |int k n=>exact Zba rfl j
 |str s=>exact Zba rfl j
 |nilp=>exact Zba rfl j
 |nils=>exact Zba rfl j
 |nilf=>exact Zba rfl j
 |nilm=>exact Zba rfl j
 |nili=>exact Zba rfl j
 |ifc _ _=>exact Zba rfl j
 |lst es=>exact Zba h j
 |ptr _ _ _=>simp[Zha]at h
 |ref _ _ _ _=>simp[Zha]at h
 |map _=>simp[Zha]at h
 |box _ _=>simp[Zha]at h
 |func _ _ _=>simp[Zha]at h
end
variable [Laid]
open Go.RowKit
section
variable {P : Program} {h : Hints} {E : Ev} {w : World} {φ φ' : Phi} {S : Nat → Prop} {B : Nat} {N : Nat} {tm : List (Nat × PV)} {a : Act} {H : List Mem}
theorem Zh9 {tm:List (Nat×PV)}: ∀ {ks:List Nat} {t:Nat} {p:PV},get (Zl3 tm ks) t=some p→get tm t=some p
 | [],t,p,h=>by simp[Zl3,ZlB]at h
 |k::r,t,p,h=>by
  simp only[Zl3]at h
  split at h
  ·rename_i v j
   rw[Zb7]at h
   split at h
   ·rename_i e;subst e;cases h;exact j
   ·exact Zh9 h
  ·exact Zh9 h
theorem ZlQ (j:TRel φ w S N tm a) (ks:List Nat):TRel φ w S N (Zl3 tm ks) a:=⟨j.1,j.2.1,fun i p hp=>j.2.2 i p (Zh9 hp)⟩
theorem ZjU: ∀ {l:List PV} {vs:List Value},(∀p∈l,∀v,VRel φ w S p v→VRel φ' w S p v)→VL φ w S l vs→VL φ' w S l vs
 | [],_,_,h=>by simpa only[VL]using h
 |p::ps,_,hp,h=>by
  simp only[VL]at h⊢
  obtain⟨v,r,j,C,I⟩:=h
  exact⟨v,r,j,hp p Xah v C,ZjU (fun q J=>hp q (Xai _ J)) I⟩
theorem Zi1 {p:PV} (j:ZgP p=true) {v:Value} (C:VRel φ w S p v):VRel φ' w S p v:=by
 cases p<;>simp only[ZgP]at j<;>try (cases j;done)
 case func f x y=>
  simp only[Xag,XbN]at j
  obtain⟨rfl,rfl⟩:=j
  simpa only[VRel,VL]using C
 case agg cs=>
  simp only[VRel]at C⊢
  obtain⟨arr,I,J,R⟩:=C
  refine⟨arr,I,J,ZjU (fun q U v C=> ?_) R⟩
  have:=Xau.1 j q U
  cases q<;>simp only[]at this<;>first|(cases this;done)|(simpa only[VRel]using C)
 case tup vs=>
  simp only[XbN]at j
  subst j
  simpa only[VRel,VL]using C
 all_goals simpa only[VRel]using C
theorem ZoH: ∀ {l:List PV} {b o:Nat},(∀p∈l,ZgP p=true)→VC φ w S l b o→VC φ' w S l b o
 | [],_,_,_,_=>trivial
 |p::ps,b,o,j,h=>by
  obtain⟨⟨C,v,I,J⟩,R⟩:=h
  exact⟨⟨C,v,I,Zi1 (j p Xah) J⟩,ZoH (fun q U=>j q (Xai _ U)) R⟩
theorem Zo8: ∀ {l:List (List PV)} {b o:Nat},(∀c∈l,∀p∈c,ZgP p=true)→VE φ w S l b o→VE φ' w S l b o
 | [],_,_,_,_=>trivial
 |c::cs,b,o,j,h=>⟨ZoH (j c Xah) h.1,Zo8 (fun q C=>j q (Xai _ C)) h.2⟩
theorem ZpM: ∀ {l:List (PV×PV)} {es:List MapEntry},(∀x∈l,ZgP x.1=true∧ZgP x.2=true)→VM φ w S l es→VM φ' w S l es
 | [],_,_,h=>h
 |(k,v)::r,es,j,h=>by
  obtain⟨e,C,I,J,R,U⟩:=h
  have:=j (k,v) Xah
  exact⟨e,C,I,Zi1 this.1 J,Zi1 this.2 R,ZpM (fun q hq=>j q (Xai _ hq)) U⟩
def reφ (φ:Phi) (ids:List Nat):Phi:=fun i=>(ids[i]?).bind φ
theorem ZiG {i:Nat}: ∀ {l:List Nat},i∈l→l[pos i l]? =some i
 |j::r,h=>by
  simp only[pos]
  by_cases C:i=j
  ·subst C;simp
  ·have:Nat.beq i j=false:=by cases I:Nat.beq i j with
    |true=>exact absurd (Xam I) C
    |false=>rfl
   rw[this,cond_false]
   rcases Xav.1 h with h|h
   ·exact absurd h C
   ·simpa using ZiG h
theorem ZoR {ids:List Nat} {p:PV} (j: ∀i∈Zcq p,i∈ids) (I:ZdF p=true) {v:Value} (C:VRel φ w S p v):VRel (reφ φ ids) w S (ZjQ ids p) v:=by
 have key: ∀ {i:Nat} {l:Loc},i∈ids→φ i=some l→reφ φ ids (pos i ids)=some l:=fun hi U=>by
  unfold reφ;rw[ZiG hi];exact U
 cases p<;>simp only[ZdF]at I<;>try (cases I;done)
 case ref id i n room=>
  simp only[ZjQ,VRel]at C⊢
  obtain⟨l,a,c,J,R⟩:=C
  exact⟨l,a,c,key (j id (by simp[Zcq])) J,R⟩
 case ptr id i r=>
  simp only[ZjQ,VRel]at C⊢
  obtain⟨l,J,R⟩:=C
  exact⟨l,key (j id (by simp[Zcq])) J,R⟩
 case map id=>
  simp only[ZjQ,VRel]at C⊢
  obtain⟨l,J,R⟩:=C
  exact⟨l,key (j id (by simp[Zcq])) J,R⟩
 all_goals simpa only[ZjQ,VRel]using C
theorem Zgh {ids:List Nat}: ∀ {l:List PV} {vs:List Value},(∀p∈l,(∀i∈Zcq p,i∈ids)∧ZdF p=true)→VL φ w S l vs→VL (reφ φ ids) w S (l.map (ZjQ ids)) vs
 | [],_,_,h=>by simpa only[Xa3,VL]using h
 |p::ps,_,hp,h=>by
  simp only[VL]at h
  obtain⟨v,r,j,C,I⟩:=h
  have:=hp p Xah
  simp only[Xbb,VL]
  exact⟨v,r,j,ZoR this.1 this.2 C,Zgh (fun q J=>hp q (Xai _ J)) I⟩
theorem Zt6 (ids:List Nat) (p:PV):Zcr (ZjQ ids p)=Zcr p:=by cases p<;>rfl
theorem Zlp {ids:List Nat} {p:PV} (j: ∀i∈ZcI p,i∈ids) (C:ZbC p=true) {v:Value} (J:VRel φ w S p v):VRel (reφ φ ids) w S (ren ids p) v:=by
 cases p<;>simp only[ZbC,ZcI]at C j
 case agg cs=>
  simp only[ren,VRel]at J⊢
  obtain⟨arr,R,U,h3⟩:=J
  refine⟨arr,R, ?_,Zgh (fun q I=>⟨fun i hi=>j i (Xbd.2 ⟨q,I,hi⟩),Xau.1 C q I⟩) h3⟩
  intro c hc
  obtain⟨q,I,rfl⟩:=Xbq.1 hc
  rw[Zt6];exact U q I
 case func f x y=>
  simp only[Xag,Xau]at C
  simp only[ren,VRel]at J⊢
  obtain⟨fs,cs,R,U,h3⟩:=J
  exact⟨fs,cs,R,Zgh (fun q I=>⟨fun i hi=>j i (Xbf _ (Xbd.2 ⟨q,I,hi⟩)),C.1 q I⟩) U,
   Zgh (fun q I=>⟨fun i hi=>j i (Xbi _ (Xbd.2 ⟨q,I,hi⟩)),C.2 q I⟩) h3⟩
 case tup vs=>
  simp only[XbN]at C
  subst C
  simpa only[ren,ZjQ,VRel,VL]using J
 all_goals (simp only[ren];exact ZoR j rfl J)
theorem Zet: ∀ (xs ids:List Nat),ids.Nodup→(xs.foldl Zcj ids).Nodup∧(∀i∈ids,i∈xs.foldl Zcj ids)∧ ∀i∈xs,i∈xs.foldl Zcj ids
 | [],ids,j=>⟨j,fun _ h=>h,by simp⟩
 |x::xs,ids,j=>by
  have C:(Zcj ids x).Nodup:=by
   unfold Zcj
   split
   ·exact j
   ·rename_i I
    rw[List.nodup_append]
    refine⟨j,by simp, ?_⟩
    intro a ha b R
    simp at R;subst R
    rintro rfl
    exact I (by simpa using ha)
  have J: ∀i∈ids,i∈Zcj ids x:=by
   intro i hi
   unfold Zcj;split
   ·exact hi
   ·exact Xbf _ hi
  have I:x∈Zcj ids x:=by
   unfold Zcj;split
   ·rename_i h;simpa using h
   ·simp
  obtain⟨h1,U,h3⟩:=Zet xs (Zcj ids x) C
  refine⟨h1,fun i hi=>U i (J i hi),fun i hi=> ?_⟩
  rcases Xav.1 hi with rfl|hi
  ·exact U i I
  ·exact h3 i hi
theorem Zoj (ids:List Nat): ∀ (tm:List (Nat×PV)) (t:Nat),get (tm.map fun x=>(x.1,ren ids x.2)) t=(get tm t).map (ren ids)
 | [],t=>rfl
 |(j,v)::r,t=>by
  rw[Xbb,Zb7,Zb7,Zoj ids r t]
  split<;>rfl
theorem Zsk: ∀ {tm:List (Nat×PV)} {t:Nat} {p:PV},get tm t=some p→(t,p)∈tm
 | [],t,p,h=>by simp[ZlB]at h
 |(j,v)::r,t,p,h=>by
  rw[Zb7]at h
  split at h
  ·rename_i e;subst e;cases h;exact Xah
  ·exact Xai _ (Zsk h)
theorem ZnJ {α β:Type} {f:α→Option β}: ∀ {l:List α} {r:List β},ZaV f l=some r→r.length=l.length∧ ∀i:Nat,r[i]? =(l[i]?).bind f
 | [],r,h=>by simp[Zb6]at h;subst h;simp
 |x::l,r,h=>by
  obtain⟨b,s,j,C,rfl⟩:=ZaD h
  obtain⟨I,J⟩:=ZnJ C
  refine⟨by simp[I],fun i=> ?_⟩
  cases i with
  |zero=>simp[j]
  |succ i=>simpa using J i
theorem Zf7 (H:List Mem): ∀ (n:Nat) (ids:List Nat),ids.Nodup→(Zed H n ids).Nodup∧ ∀i∈ids,i∈Zed H n ids
 |0,_,j=>⟨j,fun _ h=>h⟩
 |n+1,ids,j=>by
  obtain⟨C,I,_⟩:=Zet (ids.flatMap (ZnX H)) ids j
  obtain⟨J,R⟩:=Zf7 H n _ C
  exact⟨J,fun i hi=>R i (I i hi)⟩
theorem ZxZ (ids:List Nat) (p:PV):Zcr (ren ids p)=Zcr p:=by cases p<;>rfl
theorem Zv5 {ids:List Nat}: ∀ {l:List PV} {b o:Nat},(∀p∈l,ZbC p=true∧ ∀i∈ZcI p,i∈ids)→VC φ w S l b o→VC (reφ φ ids) w S (l.map (ren ids)) b o
 | [],_,_,_,_=>trivial
 |p::ps,b,o,j,h=>by
  obtain⟨⟨C,v,I,J⟩,R⟩:=h
  have:=j p Xah
  exact⟨⟨by rw[ZxZ];exact C,v,I,Zlp this.2 this.1 J⟩,Zv5 (fun q U=>j q (Xai _ U)) R⟩
theorem Zwj {ids:List Nat}: ∀ {l:List (List PV)} {b o:Nat},(∀c∈l,∀p∈c,ZbC p=true∧ ∀i∈ZcI p,i∈ids)→VE φ w S l b o→VE (reφ φ ids) w S (l.map fun c=>c.map (ren ids)) b o
 | [],_,_,_,_=>trivial
 |c::cs,b,o,j,h=>⟨Zv5 (j c Xah) h.1,by
   have:=Zwj (fun q C=>j q (Xai _ C)) h.2
   simpa using this⟩
theorem Zwe {ids:List Nat}: ∀ {l:List (PV×PV)} {es:List MapEntry},(∀x∈l,(ZbC x.1=true∧ ∀i∈ZcI x.1,i∈ids)∧(ZbC x.2=true∧ ∀i∈ZcI x.2,i∈ids))→VM φ w S l es→VM (reφ φ ids) w S (l.map fun x=>(ren ids x.1,ren ids x.2)) es
 | [],_,_,h=>h
 |(k,v)::r,es,j,h=>by
  obtain⟨e,C,I,J,R,U⟩:=h
  have:=j (k,v) Xah
  exact⟨e,C,I,Zlp this.1.2 this.1.1 J,Zlp this.2.2 this.2.1 R,Zwe (fun q hq=>j q (Xai _ hq)) U⟩
theorem Zvq {ids:List Nat} {m:Mem} {es:List (List PV)} {z:Nat} {b:Bool} (C:Znv ids m= .row es z b) (U:okM m=true) (aa: ∀i∈Zm3 m,i∈ids) {l:Loc} (I: ∀es z b,m= .row es z b→RowAt φ w S l es z b):RowAt (reφ φ ids) w S l es z b:=by
 unfold Znv at C
 cases J:ZfR m with
 |true=>
  rw[J,cond_true]at C
  have j:=I es z b C
  subst C
  refine⟨j.zs,j.top,j.wid,Zo8 (fun c R p hp=> ?_) j.cells,j.blk,j.own,j.frz⟩
  simp only[ZfR,Xau]at J
  exact J c R p hp
 |false=>
  rw[J,cond_false]at C
  cases m with
  |row ab z0 b0=>
   simp only[Mem.row.injEq]at C
   obtain⟨rfl,rfl,rfl⟩:=C
   have j:=I ab z0 b0 rfl
   simp only[okM,J,cond_false,Xau]at U
   simp only[Zm3,J,cond_false,Xbd]at aa
   refine⟨j.zs,by simpa using j.top, ?_,Zwj (fun c R p hp=>⟨U c R p hp,fun i hi=>aa i ⟨c,R,p,hp,hi⟩⟩) j.cells,j.blk,j.own,j.frz⟩
   intro c R
   obtain⟨c0,ad,rfl⟩:=Xbq.1 R
   simpa using j.wid c0 ad
  |map _=>cases C
  |dead=>cases C
theorem Zpo {ids:List Nat} {m:Mem} {es:List (PV×PV)} (C:Znv ids m= .map es) (I:okM m=true) (J: ∀i∈Zm3 m,i∈ids) {l:List MapEntry}: ∃j,m= .map j∧(VM φ w S j l→VM (reφ φ ids) w S es l):=by
 unfold Znv at C
 cases R:ZfR m with
 |true=>
  rw[R,cond_true]at C
  subst C
  refine⟨es,rfl,ZpM fun x U=> ?_⟩
  simp only[ZfR,Xau]at R
  simpa using R x U
 |false=>
  rw[R,cond_false]at C
  cases m with
  |map j=>
   simp only[Mem.map.injEq]at C
   subst C
   simp only[okM,R,cond_false,Xau,Xag]at I
   simp only[Zm3,R,cond_false,Xbd,XaA]at J
   exact⟨j,rfl,Zwe fun x U=>⟨⟨(I x U).1,fun i hi=>J i ⟨x,U, .inl hi⟩⟩,⟨(I x U).2,fun i hi=>J i ⟨x,U, .inr hi⟩⟩⟩⟩
  |row _ _ _=>cases C
  |dead=>cases C
theorem ZjE (ids:List Nat) (m:Mem):(Znv ids m).alive=m.alive:=by
 unfold Znv
 cases ZfR m with
 |true=>rfl
 |false=>cases m<;>rfl
theorem Zgn {st:St} (R:Zeb tm H=some st) (hI:Inv φ H w S B) (ht:TRel φ w S N tm a): ∃φ',Inv φ' st.hp w S B∧TRel φ' w S N st.tm a:=by
 unfold Zeb at R
 simp only[]at R
 split at R
 ·rename_i af
  obtain⟨av,_,ag⟩:=Zet (tm.flatMap fun x=>ZcI x.2) [] List.nodup_nil
  obtain⟨hn,ah⟩:=Zf7 H 3 _ av
  have ai: ∀i∈tm.flatMap fun x=>ZcI x.2,i∈Zed H 3 ((tm.flatMap fun x=>ZcI x.2).foldl Zcj []):=fun i hi=>ah i (ag i hi)
  generalize Zed H 3 ((tm.flatMap fun x=>ZcI x.2).foldl Zcj [])=ids at R hn ai
  cases ho:ZaV (fun i=>(H[i]?).bind fun m=>if okM m&&(Zm3 m).all ids.contains then some (Znv ids m)else none) ids with
  |none=>rw[ho]at R;cases R
  |some H'=>
   rw[ho]at R
   simp only[Xak,Xaf]at R
   subst R
   obtain⟨hlen,aj⟩:=ZnJ ho
   have hm: ∀ (i:Nat) (m:Mem),H'[i]? =some m→ ∃id m0,ids[i]? =some id∧H[id]? =some m0∧m=Znv ids m0∧okM m0=true∧ ∀j∈Zm3 m0,j∈ids:=by
    intro i m hm
    rw[aj i]at hm
    obtain⟨id,C,hm⟩:=Zak hm
    obtain⟨m',I,hm⟩:=Zak hm
    obtain⟨hf,hm⟩:=Zar hm
    cases hm
    simp only[Xag,Xau]at hf
    exact⟨id,m',C,I,rfl,hf.1,fun j hj=>by simpa using hf.2 j hj⟩
   have J: ∀i l,reφ φ ids i=some l→ ∃id,ids[i]? =some id∧φ id=some l:=fun i l h=>Zak h
   refine⟨reφ φ ids,⟨?_, ?_, ?_, ?_,hI.stable,hI.base,hI.laid⟩,ht.1,ht.2.1, ?_⟩
   ·intro i l hl
    obtain⟨id,C,I⟩:=J i l hl
    have:=hI.live id l I
    have bd:=(Xae.1 C).1
    exact⟨this.1,this.2.1,by show i<H'.length;omega⟩
   ·intro i l es z m hl ad
    obtain⟨id,C,I⟩:=J i l hl
    obtain⟨ae,m0,U,h4,h5,h6,h7⟩:=hm i _ ad
    rw[C]at U;cases U
    exact Zvq h5.symm h6 h7 fun es z b e=>hI.row id l es z b I (by rw[h4,e])
   ·intro i l es hl ad
    obtain⟨id,C,I⟩:=J i l hl
    obtain⟨ae,m0,U,h4,h5,h6,h7⟩:=hm i _ ad
    rw[C]at U;cases U
    obtain⟨aw,rfl,_⟩:=Zpo (φ:=φ) (w:=w) (S:=S) (l:=[]) h5.symm h6 h7
    obtain⟨h8,aa,clock,h9,ak⟩:=hI.map id l aw I h4
    obtain⟨bf,ax,ay⟩:=Zpo (φ:=φ) (w:=w) (S:=S) (l:=aa.toList) h5.symm h6 h7
    cases ax
    exact⟨h8,aa,clock,h9,ay ak.1,ak.2⟩
   ·intro i i' l l' m m' az hl a1 a6 al ha an
    obtain⟨id,C,I⟩:=J i l hl
    obtain⟨ae,ao,a7⟩:=J i' l' a1
    obtain⟨x,m0,U,h4,h5,_⟩:=hm i _ a6
    obtain⟨x',a8,aq,ba,bb,_⟩:=hm i' _ al
    rw[C]at U;cases U
    rw[ao]at aq;cases aq
    refine hI.apart id ae l l' m0 a8 ?_ I a7 h4 ba (by rw[h5,ZjE]at ha;exact ha) (by rw[bb,ZjE]at an;exact an)
    rintro rfl
    have e1:=Xae.1 C
    have e2:=Xae.1 ao
    obtain⟨g1,g2⟩:=e1
    obtain⟨ar,au⟩:=e2
    rcases Nat.lt_or_gt_of_ne az with h9|h9
    ·exact List.pairwise_iff_getElem.1 hn i i' g1 ar h9 (g2.trans au.symm)
    ·exact List.pairwise_iff_getElem.1 hn i' i ar g1 h9 (au.trans g2.symm)
   ·intro i p hp
    rw[Zoj]at hp
    cases hg:get tm i with
    |none=>simp[hg]at hp
    |some q=>
     simp only[hg,Xak,Xaf]at hp
     subst hp
     obtain⟨C,I⟩:=ht.2.2 i q hg
     have ab:=Zsk hg
     have bc:=Xau.1 af _ ab
     exact⟨C,Zlp (fun j hj=>ai j (Xbd.2 ⟨_,ab,hj⟩)) bc I⟩
 ·cases R
theorem Zeq {c:Cx} {k:Option (List Nat×Bool)} {s st:St} (hm:ZeI k c s=some st) (hI:Inv φ s.hp w S B) (C:TRel φ w S N s.tm a) (j:c.base≤s.hp.length):
 ∃φ',Inv φ' st.hp w S B∧TRel φ' w S N st.tm a∧c.base≤st.hp.length∧Evo c.base B φ S w φ' S w:=by
 unfold ZeI at hm
 split at hm
 ·cases hm
  exact⟨φ,hI,C,j,Evo.refl _ _ _ _ _⟩
 ·rename_i ks comp
  cases comp with
  |true=>
   simp only[if_true]at hm
   obtain⟨U,hm⟩:=Zar hm
   obtain⟨φ',I,J⟩:=Zgn hm hI (ZlQ C ks)
   exact⟨φ',I,J,by omega,⟨fun id l hid=>by omega,fun b j=>⟨j,rfl⟩,fun b _ R=>R,Below.refl _ _⟩⟩
  |false=>
   simp only[XaG,if_false,Xaf]at hm
   subst hm
   exact⟨φ,hI,ZlQ C ks,j,Evo.refl _ _ _ _ _⟩
end
variable [Laid]
open Go.RowKit
def FrzM (m j:Mem):Prop:=j=m∨ ∃es z b,m= .row es z b∧j= .row es z false
section
variable {w w' : World} {φ φc φ' : Phi} {S Sc S' : Nat → Prop} {B base : Nat} {Hs Hc : List Mem}
theorem ZrQ (R: ∀id l,φc id=some l→φ' (base+id)=some l) {p:PV} {v:Value} (hs:ZhY p=true∨ ∀b,Sc b→S' b) (J:ZdF p=true) (j:VRel φc w' Sc p v):VRel φ' w' S' (sh1 base p) v:=by
 cases p<;>simp only[ZdF]at J<;>try (cases J;done)
 case ref id i n room=>
  simp only[sh1,VRel]at j⊢
  obtain⟨l,a,c,C,I⟩:=j
  exact⟨l,a,c,R _ _ C,I⟩
 case ptr id i r=>
  simp only[sh1,VRel]at j⊢
  obtain⟨l,C,I⟩:=j
  exact⟨l,R _ _ C,I⟩
 case map id=>
  simp only[sh1,VRel]at j⊢
  obtain⟨l,C,I⟩:=j
  exact⟨l,R _ _ C,I⟩
 case lst es=>
  simp only[sh1,VRel]at j⊢
  rcases hs with hs|hs
  ·simp only[ZhY,XbN]at hs
   subst hs
   simp only[IRel]at j⊢
   obtain⟨a,c,C,I,_⟩:=j
   exact⟨a,c,C,I, .inl trivial⟩
  ·exact IRel.mono (fun b U=>⟨hs b U,rfl⟩) _ _ j
 case box cs r=>
  simp only[sh1,VRel]at j⊢
  rcases hs with hs|hs
  ·simp[ZhY]at hs
  ·exact IRel.mono (fun b U=>⟨hs b U,rfl⟩) _ _ j
 all_goals simpa only[sh1,VRel]using j
theorem Zh2 (j: ∀id l,φc id=some l→φ' (base+id)=some l): ∀ {l:List PV} {vs:List Value},(∀p∈l,(ZhY p=true∨ ∀b,Sc b→S' b)∧ZdF p=true)→VL φc w' Sc l vs→VL φ' w' S' (l.map (sh1 base)) vs
 | [],_,_,h=>by simpa only[Xa3,VL]using h
 |p::ps,_,hp,h=>by
  simp only[VL]at h
  obtain⟨v,r,C,I,J⟩:=h
  have:=hp p Xah
  simp only[Xbb,VL]
  exact⟨v,r,C,ZrQ j this.1 this.2 I,Zh2 j (fun q R=>hp q (Xai _ R)) J⟩
theorem Zov (R: ∀id l,φc id=some l→φ' (base+id)=some l) {p:PV} {v:Value} (U:Zde p=true∨ ∀b,Sc b→S' b) (j:ZbC p=true) (I:VRel φc w' Sc p v):VRel φ' w' S' (sh base p) v:=by
 cases p<;>simp only[ZbC]at j
 case agg cs=>
  simp only[sh,VRel]at I⊢
  obtain⟨arr,h1,h2,h3⟩:=I
  refine⟨arr,h1, ?_,Zh2 R (fun q C=>⟨U.imp (fun h=>Xau.1 h q C) id,Xau.1 j q C⟩) h3⟩
  intro c hc
  obtain⟨q,C,rfl⟩:=Xbq.1 hc
  have:=h2 q C
  cases q<;>first|rfl|(simp[Zcr]at this)
 case func f x y=>
  simp only[Xag,Xau]at j
  simp only[sh,VRel]at I⊢
  obtain⟨fs,cs,h1,h2,h3⟩:=I
  have J:(x.all ZhY=true∧y.all ZhY=true)∨ ∀b,Sc b→S' b:=U.imp (fun h=>by simpa only[Zde,Xag]using h) id
  exact⟨fs,cs,h1,Zh2 R (fun q C=>⟨J.imp (fun h=>Xau.1 h.1 q C) id,j.1 q C⟩) h2,Zh2 R (fun q C=>⟨J.imp (fun h=>Xau.1 h.2 q C) id,j.2 q C⟩) h3⟩
 case tup vs=>
  simp only[XbN]at j
  subst j
  simpa only[sh,sh1,VRel,VL]using I
 all_goals (simp only[sh];exact ZrQ R U rfl I)
theorem Zy2 (p:PV):Zcr (sh base p)=Zcr p:=by cases p<;>rfl
theorem ZyY (j: ∀id l,φc id=some l→φ' (base+id)=some l): ∀ {l:List PV} {vs:List Value},(∀p∈l,(Zde p=true∨ ∀b,Sc b→S' b)∧ZbC p=true)→VL φc w' Sc l vs→VL φ' w' S' (l.map (sh base)) vs
 | [],_,_,h=>by simpa only[Xa3,VL]using h
 |p::ps,_,hp,h=>by
  simp only[VL]at h
  obtain⟨v,r,C,I,J⟩:=h
  have:=hp p Xah
  simp only[Xbb,VL]
  exact⟨v,r,C,Zov j this.1 this.2 I,ZyY j (fun q R=>hp q (Xai _ R)) J⟩
theorem ZyN (j: ∀id l,φc id=some l→φ' (base+id)=some l): ∀ {l:List PV} {b o:Nat},(∀p∈l,(Zde p=true∨ ∀b,Sc b→S' b)∧ZbC p=true)→VC φc w' Sc l b o→VC φ' w' S' (l.map (sh base)) b o
 | [],_,_,_,_=>trivial
 |p::ps,b,o,C,h=>by
  obtain⟨⟨I,v,J,R⟩,U⟩:=h
  have:=C p Xah
  exact⟨⟨by rw[Zy2];exact I,v,J,Zov j this.1 this.2 R⟩,ZyN j (fun q hq=>C q (Xai _ hq)) U⟩
theorem ZyO (j: ∀id l,φc id=some l→φ' (base+id)=some l): ∀ {l:List (List PV)} {b o:Nat},(∀c∈l,∀p∈c,(Zde p=true∨ ∀b,Sc b→S' b)∧ZbC p=true)→VE φc w' Sc l b o→VE φ' w' S' (l.map fun c=>c.map (sh base)) b o
 | [],_,_,_,_=>trivial
 |c::cs,b,o,C,h=>⟨ZyN j (C c Xah) h.1,by
   have:=ZyO j (fun q I=>C q (Xai _ I)) h.2
   simpa using this⟩
theorem ZzR (j: ∀id l,φc id=some l→φ' (base+id)=some l): ∀ {l:List (PV×PV)} {es:List MapEntry},(∀x∈l,((Zde x.1=true∨ ∀b,Sc b→S' b)∧ZbC x.1=true)∧((Zde x.2=true∨ ∀b,Sc b→S' b)∧ZbC x.2=true))→VM φc w' Sc l es→VM φ' w' S' (l.map fun x=>(sh base x.1,sh base x.2)) es
 | [],_,_,h=>h
 |(k,v)::r,es,C,h=>by
  obtain⟨e,I,J,R,U,h4⟩:=h
  have:=C (k,v) Xah
  exact⟨e,I,J,Zov j this.1.1 this.1.2 R,Zov j this.2.1 this.2.2 U,ZzR j (fun q hq=>C q (Xai _ hq)) h4⟩
theorem Zmx {ps:List PV} {us:List Value} (hI:Inv φ Hs w S B) (hb:Below w.heap.size w w') (R:Inv φc Hc w' Sc w.heap.size)
 (ao: ∀ (j:Nat) (m:Mem),(Hc.map (shM base))[j]? =some m→ ∃m',Hs[base+j]? =some m'∧FrzM m m'∧φ (base+j)=none) (aq:Hc.all Zyl=true)
 (ak:(Hc.all ZlK=true∧ ∀y∈ps,Zde y=true)∨ ∀b,b<w.heap.size→Sc b→S b) (a8:VL φc w' Sc ps us) (ar: ∀y∈ps,ZbC y=true):
 ∃φ' S',Inv φ' Hs w' S' B∧Evo Hs.length B φ S w φ' S' w'∧VL φ' w' S' (ps.map (sh base)) us∧ ∀i,¬ (base≤i∧i<base+Hc.length)→φ' i=φ i:=by
 let φ':Phi:=fun i=>if base≤i∧i<base+Hc.length then φc (i-base)else φ i
 let S':Nat→Prop:=fun b=>S b∨(w.heap.size≤b∧b<w'.heap.size∧(Sc b∨ ∃ (j:Nat) (l:Loc) (es:List (List PV)) (z:Nat),φc j=some l∧l.b=b∧Hs[base+j]? =some (.row es z false)))
 have au: ∀b,S' b→b<w'.heap.size:=fun b h=>h.elim (fun h=>XaJ (hI.stable b h) hb.size) (fun h=>h.2.1)
 obtain⟨ah,al⟩:=hI.ext (S':=S') hb (fun b h=> .inl h) au (fun b av h=>h.elim id (fun h=>by omega))
 have ab: ∀ {i},base≤i∧i<base+Hc.length→φ' i=φc (i-base):=fun{i} h=>if_pos h
 have C: ∀ {i},¬ (base≤i∧i<base+Hc.length)→φ' i=φ i:=fun{i} h=>if_neg h
 have at_: ∀j,j<Hc.length→ ∃m m',Hc[j]? =some m∧Hs[base+j]? =some m'∧FrzM (shM base m) m'∧φ (base+j)=none:=by
  intro j hj
  have U:Hc[j]? =some Hc[j]:=by simp[hj]
  obtain⟨m',h2,h3,h4⟩:=ao j (shM base Hc[j]) (by rw[Xa2,U];rfl)
  exact⟨_,m',U,h2,h3,h4⟩
 have hk: ∀id l,φc id=some l→φ' (base+id)=some l:=by
  intro id l h
  have:=(R.live id l h).2.2
  rw[ab ⟨by omega,by omega⟩,show base+id-base=id from by omega]
  exact h
 have ae:(Hc.all ZlK=true∧ ∀y∈ps,Zde y=true)∨ ∀b,Sc b→S' b:=by
  rcases ak with h|h
  ·exact .inl h
  ·refine .inr fun b an=> ?_
   by_cases av:b<w.heap.size
   ·exact .inl (h b av an)
   ·exact .inr ⟨by omega,R.stable b an, .inl an⟩
 have I: ∀ {m m':Mem},FrzM (shM base m) m'→m'.alive=m.alive:=by
  intro m m' h
  rcases h with rfl|⟨es,z,b,U,rfl⟩
  ·cases m<;>rfl
  ·cases m<;>simp[shM]at U;rfl
 have free: ∀ {j l m},φc j=some l→Hc[j]? =some m→m.alive=true→ ¬Sc l.b→(∀es z,Hs[base+j]?≠some (.row es z false))→ ¬S' l.b:=by
  intro j l m hj hm ha ba bb hs
  have bm:=R.live j l hj
  rcases hs with hs|⟨_,_,hs|⟨j',l',es,z,U,h2,h3⟩⟩
  ·have:=hI.stable _ hs;omega
  ·exact ba hs
  ·by_cases aw:j=j'
   ·subst aw;exact bb _ _ h3
   ·obtain⟨m2,bc,h4,h5,h6,_⟩:=at_ j' (R.live j' l' U).2.2
    rw[h3]at h5;cases h5
    exact R.apart j j' l l' m m2 aw hj U hm h4 ha (by rw[←I h6];rfl) h2.symm
 refine⟨φ',S',⟨?_, ?_, ?_, ?_,au,ah.base,ah.laid⟩,⟨?_,al.st,al.old,al.below⟩, ?_,fun i hi=>C hi⟩
 ·intro i l J
  by_cases hi:base≤i∧i<base+Hc.length
  ·rw[ab hi]at J
   have U:=R.live _ l J
   obtain⟨_,m',_,h2,_⟩:=at_ (i-base) (by omega)
   have h3:=(Xae.1 h2).1
   have:=hI.base
   exact⟨by omega,U.2.1,by omega⟩
  ·rw[C hi]at J
   exact ah.live i l J
 ·intro i l es z m J hm
  by_cases hi:base≤i∧i<base+Hc.length
  ·rw[ab hi]at J
   obtain⟨mc,m',U,h2,h3,_⟩:=at_ (i-base) (by omega)
   rw[show base+(i-base)=i from by omega,hm]at h2
   cases h2
   obtain⟨aa,m1,rfl,rfl,bd⟩: ∃aa m1,mc= .row aa z m1∧es=aa.map (fun c=>c.map (sh base))∧(m=m1∨m=false):=by
    rcases h3 with h3|⟨es',z',b',h3,h4⟩
    ·cases mc<;>simp[shM]at h3
     obtain⟨rfl,rfl,rfl⟩:=h3
     exact⟨_,_,rfl,rfl, .inl rfl⟩
    ·cases mc<;>simp[shM]at h3
     obtain⟨rfl,rfl,rfl⟩:=h3
     cases h4
     exact⟨_,_,rfl,rfl, .inr rfl⟩
   have hr:=R.row _ l aa z m1 J U
   have ax:m=true→m1=true:=fun h=>by rcases bd with h'|h'<;>simp_all
   have ay: ∀c∈aa,∀p∈c,(Zde p=true∨ ∀b,Sc b→S' b)∧ZbC p=true:=by
    intro c hc p hp
    have g1:=Xau.1 aq _ (XaI U)
    simp only[Zyl,Xau]at g1
    refine⟨ae.imp (fun h=> ?_) id,g1 c hc p hp⟩
    have g2:=Xau.1 h.1 _ (XaI U)
    simp only[ZlK,Xau]at g2
    exact g2 c hc p hp
   obtain⟨cur,e,fz,g1,g2,g3⟩:=hr.blk
   have az:=R.live _ l J
   refine⟨hr.zs,by simpa using hr.top, ?_,ZyO hk ay hr.cells,⟨cur,e,fz,g1,g2,fun h=>g3 (ax h)⟩, ?_, ?_⟩
   ·intro c hc
    obtain⟨c0,bf,rfl⟩:=Xbq.1 hc
    simpa using hr.wid c0 bf
   ·intro ag
    refine free J U rfl (hr.own (ax ag)) ?_
    intro es' z' hh
    rw[show base+(i-base)=i from by omega,hm]at hh
    cases hh;cases ag
   ·intro bg
    subst bg
    exact .inr ⟨az.1,az.2.1, .inr ⟨i-base,l,_,z,J,rfl,by rw[show base+(i-base)=i from by omega];exact hm⟩⟩
  ·rw[C hi]at J
   have hr:=ah.row i l es z m J hm
   have af: ∀id l,φ id=some l→φ' id=some l:=by
    intro id l' h
    by_cases hid:base≤id∧id<base+Hc.length
    ·obtain⟨_,_,_,_,_,h4⟩:=at_ (id-base) (by omega)
     rw[show base+(id-base)=id from by omega,h]at h4;cases h4
    ·rw[C hid];exact h
   exact⟨hr.zs,hr.top,hr.wid,VE.mono af (fun b hb=>⟨hb,rfl⟩) _ _ _ rfl hr.cells,hr.blk,hr.own,hr.frz⟩
 ·intro i l es J hm
  by_cases hi:base≤i∧i<base+Hc.length
  ·rw[ab hi]at J
   obtain⟨mc,m',U,h2,h3,_⟩:=at_ (i-base) (by omega)
   rw[show base+(i-base)=i from by omega,hm]at h2
   cases h2
   obtain⟨aa,rfl,rfl⟩: ∃aa,mc= .map aa∧es=aa.map (fun x=>(sh base x.1,sh base x.2)):=by
    rcases h3 with h3|⟨es',z',b',h3,h4⟩
    ·cases mc<;>simp[shM]at h3
     exact⟨_,rfl,h3⟩
    ·cases h4
   obtain⟨g1,ai,clock,g2,g3⟩:=R.map _ l aa J U
   refine⟨free J U rfl g1 ?_,ai,clock,g2,ZzR hk (fun x hx=> ?_) g3.1,g3.2⟩
   ·intro es' z' hh
    rw[show base+(i-base)=i from by omega,hm]at hh
    cases hh
   ·have g4:=Xau.1 aq _ (XaI U)
    simp only[Zyl,Xau,Xag]at g4
    have g5:(Zde x.1=true∧Zde x.2=true)∨ ∀b,Sc b→S' b:=ae.imp (fun h=>by
     have g6:=Xau.1 h.1 _ (XaI U)
     simp only[ZlK,Xau,Xag]at g6
     exact g6 x hx) id
    exact⟨⟨g5.imp (·.1) id,(g4 x hx).1⟩,⟨g5.imp (·.2) id,(g4 x hx).2⟩⟩
  ·rw[C hi]at J
   obtain⟨g1,ai,clock,g2,g3⟩:=ah.map i l es J hm
   have af: ∀id l,φ id=some l→φ' id=some l:=by
    intro id l' h
    by_cases hid:base≤id∧id<base+Hc.length
    ·obtain⟨_,_,_,_,_,h4⟩:=at_ (id-base) (by omega)
     rw[show base+(id-base)=id from by omega,h]at h4;cases h4
    ·rw[C hid];exact h
   exact⟨g1,ai,clock,g2,VMc.mono af (fun b hb=>⟨hb,rfl⟩) g3⟩
 ·intro i i' l l' m m' bh J ad hm a1 ha a6
  by_cases hi:base≤i∧i<base+Hc.length<;>by_cases aj:base≤i'∧i'<base+Hc.length
  ·rw[ab hi]at J
   rw[ab aj]at ad
   obtain⟨mc,m2,U,h2,h3,_⟩:=at_ (i-base) (by omega)
   obtain⟨bj,bc,bk,a7,bl,_⟩:=at_ (i'-base) (by omega)
   rw[show base+(i-base)=i from by omega,hm]at h2
   rw[show base+(i'-base)=i' from by omega,a1]at a7
   cases h2;cases a7
   exact R.apart _ _ l l' mc bj (by omega) J ad U bk (by rw[←I h3];exact ha) (by rw[←I bl];exact a6)
  ·rw[ab hi]at J
   rw[C aj]at ad
   have:=R.live _ l J
   have:=hI.live _ l' ad
   omega
  ·rw[C hi]at J
   rw[ab aj]at ad
   have:=hI.live _ l J
   have:=R.live _ l' ad
   omega
  ·rw[C hi]at J
   rw[C aj]at ad
   exact ah.apart i i' l l' m m' bh J ad hm a1 ha a6
 ·intro id l _ h
  by_cases hid:base≤id∧id<base+Hc.length
  ·obtain⟨_,_,_,_,_,h4⟩:=at_ (id-base) (by omega)
   rw[show base+(id-base)=id from by omega,h]at h4;cases h4
  ·rw[C hid];exact h
 ·exact ZyY hk (fun p hp=>⟨ae.imp (fun h=>h.2 p hp) id,ar p hp⟩) a8
def Zxj (Hs:List Mem) (φ:Phi) (base:Nat) (ms:List Mem):Prop:= ∀ (j:Nat) (m:Mem),ms[j]? =some m→ ∃C,Hs[base+j]? =some C∧FrzM m C∧φ (base+j)=none
theorem Zfn: ∀ (args:List PV) (i t:Nat) (p:PV),get (Zbq i args) t=some p→i≤t∧args[t-i]? =some p
 | [],i,t,p,h=>by simp[Zbq,ZlB]at h
 |v::r,i,t,p,h=>by
  simp only[Zbq]at h
  rw[Zb7]at h
  split at h
  ·rename_i e;subst e;cases h;simp
  ·obtain⟨C,j⟩:=Zfn r (i+1) t p h
   refine⟨by omega, ?_⟩
   rw[show t-i=(t-(i+1))+1 from by omega]
   simpa using j
theorem ZgJ: ∀ (vs:List PV) (k i:Nat),get (Zbq k vs) (k+i)=vs[i]?
 | [],k,i=>by simp[Zbq,ZlB]
 |v::r,k,i=>by
  simp only[Zbq]
  rw[Zb7]
  cases i with
  |zero=>simp
  |succ i=>
   rw[if_neg (by omega),show k+(i+1)=k+1+i from by omega,ZgJ r (k+1) i]
   simp
theorem ZbS: ∀ (vs:List PV) (k:Nat),(Zbq k vs).map (·.2)=vs
 | [],_=>rfl
 |v::r,k=>by simp only[Zbq,Xbb,ZbS r (k+1)]
theorem Zmf {φ:Phi}: ∀ {l:List PV} {vs:List Value},l.length=vs.length→(∀ (i:Nat) (p:PV),l[i]? =some p→VRel φ w S p (vs.getD i undef))→VL φ w S l vs
 | [],vs,h,_=>by
  have:vs=[]:=by cases vs<;>simp_all
  simp only[VL];exact this
 |p::l,[],h,_=>by simp at h
 |p::l,v::vs,h,j=>by
  simp only[VL]
  exact⟨v,vs,rfl,by simpa using j 0 p rfl,Zmf (by simpa using h) fun i q C=>by simpa using j (i+1) q (by simpa using C)⟩
theorem ZmA {tm:List (Nat×PV)} {H:List Mem} {st:St} (j:Zeb tm H=some st): ∃ids,st.tm=tm.map fun x=>(x.1,ren ids x.2):=by
 unfold Zeb at j
 simp only[]at j
 split at j
 ·generalize Zed H 3 ((tm.flatMap fun x=>ZcI x.2).foldl Zcj [])=ids at j
  cases C:ZaV (fun i=>(H[i]?).bind fun m=>if okM m&&(Zm3 m).all ids.contains then some (Znv ids m)else none) ids with
  |none=>rw[C]at j;cases j
  |some H'=>
   rw[C]at j
   simp only[Xak,Xaf]at j
   subst j
   exact⟨ids,rfl⟩
 ·cases j
theorem Zl8 {φ:Phi} {vs:List PV} {us:List Value} {H:List Mem} {st:St} (C:Zeb (Zbq 0 vs) H=some st) (hI:Inv φ H w S B) (I:VL φ w S vs us): ∃φ',Inv φ' st.hp w S B∧VL φ' w S (st.tm.map (·.2)) us:=by
 obtain⟨φ',h1,h2⟩:=Zgn (N:=us.length) (a:={tmps:=us.toArray,defers:=[]}) C hI ⟨by simp,rfl,fun i p hp=>by
  obtain⟨_,J⟩:=Zfn vs 0 i p hp
  simp only[Nat.sub_zero]at J
  obtain⟨u,R,h7⟩:=VL.get I J
  have hi:=(Xae.1 R).1
  refine⟨hi, ?_⟩
  have:us.toArray.getD i undef=u:=by simp[Array.getD_eq_getD_getElem?,R]
  rw[this];exact h7⟩
 obtain⟨ids,j⟩:=ZmA C
 refine⟨φ',h1,Zmf ?_ ?_⟩
 ·rw[j,VL.length I]
  have:=congrArg List.length (ZbS vs 0)
  simpa using this
 ·intro i p hp
  have hg:get st.tm i=some p:=by
   rw[j,Zoj]
   have U:=ZgJ vs 0 i
   rw[Xaq]at U
   rw[U]
   have h4:(st.tm.map (·.2))[i]? =(vs[i]?).map (ren ids):=by
    rw[j,List.map_map]
    have:(Zbq 0 vs).map ((fun x=>x.2)∘fun x=>(x.1,ren ids x.2))=vs.map (ren ids):=by
     rw[←ZbS vs 0,List.map_map]
     simp[ZbS]
    rw[this,Xa2]
   rw[←h4];exact hp
  have:=(h2.2.2 i p hg).2
  simpa[Array.getD_eq_getD_getElem?]using this
theorem ZtK {φ:Phi} {v:PV} {u:Value} (C:VRel φ w S v u): ∃us,VL φ w S (Zcg v) us∧ ∀ (φ':Phi) (w':World) (S':Nat→Prop) (ps:List PV),VL φ' w' S' ps us→VRel φ' w' S' (ZhC v ps) u:=by
 have one:VL φ w S [v] [u]:=by simp only[VL];exact⟨u,[],rfl,C,rfl⟩
 have back: ∀ (φ':Phi) (w':World) (S':Nat→Prop) (ps:List PV),VL φ' w' S' ps [u]→ ∃q,ps=[q]∧VRel φ' w' S' q u:=by
  intro φ' w' S' ps h
  cases ps with
  |nil=>simp[VL]at h
  |cons q r=>
   simp only[VL]at h
   obtain⟨v1,r1,J,I,R⟩:=h
   cases J
   cases r with
   |nil=>exact⟨q,rfl,I⟩
   |cons x y=>simp[VL]at R
 cases v
 case tup vs=>
  simp only[VRel]at C
  obtain⟨arr,rfl,I⟩:=C
  refine⟨arr.toList,I,fun φ' w' S' ps j=> ?_⟩
  simp only[ZhC,VRel]
  exact⟨arr,rfl,j⟩
 all_goals exact⟨[u],one,fun φ' w' S' ps j=>by
  obtain⟨q,rfl,U⟩:=back φ' w' S' ps j
  exact U⟩
end
variable [Laid]
open Go.RowKit
def conv:Ex→Exit
 | .normal=> .normal
 | .exit id=> .exit id
 | .ret=> .ret
def ZxQ (H':List Mem) (k B:Nat) (φ:Phi) (S:Nat→Prop) (w:World) (v:PV) (e:Ending) (w':World):Prop:=
 ∃u φ' S',e= .returned u∧Inv φ' H' w' S' B∧Evo k B φ S w φ' S' w'∧VRel φ' w' S' v u
section
variable {P : Program} {h : Hints} {E : Ev}
def Zoi (P:Program) (E:Ev):Prop:= ∀f args H v H',E.rn f args H=some (v,H')→ ∀φ S w B vals,Inv φ H w S B→VL φ w S args vals→Calls P f vals.toArray w (ZxQ H' H.length B φ S w v)
def Zck (P:Program) (h:Hints):Prop:= ∀f g,h.prim f=some g→ ∀j v,g j=some v→ ∀ (S:Nat→Prop) w vals,(∀b,S b→b<w.heap.size)→Laid.ok S w→LRel w S j vals→
 Calls P f vals.toArray w fun e w'=> ∃u,e= .returned u∧Below w.heap.size w w'∧IRel w' (fun b=>S b∨(w.heap.size≤b∧b<w'.heap.size)) v u
variable {w : World} {φ : Phi} {S : Nat → Prop} {B : Nat} {H : List Mem}
theorem Inv.empty (S:Nat→Prop) (w:World) (C: ∀b,S b→b<w.heap.size) (I:Laid.ok S w):Inv (fun _=>none) [] w S w.heap.size where
 live:=by intro id l h;cases h
 row:=by intro id l es z m h;cases h
 map:=by intro id l es h;cases h
 apart:=by intro i j l J m R _ h;cases h
 stable:=C
 base:=Xan _
 laid:=I
theorem Zgq {j:List PV} {vals:List Value} (h:LRel w S j vals):VL (fun _=>none) w S j vals:=LRel.toV _ _ h
theorem ZiV (hE:Zoi P E) (hP:Zck P h) (hI:Inv φ H w S B) {f:FuncId} {args:List PV} {vals:List Value} {q:PV} {ms:List Mem} {fz:List Nat} {base:Nat} (R:Zgt h E f args H base=some (q,ms,fz))
 (hv:VL φ w S args vals) (an:Zxj H φ base ms) (ai: ∀id∈fz,∀l es z m,φ id=some l→H[id]? =some (.row es z m)→S l.b):
 Calls P f vals.toArray w (fun e w'=> ∃u φ' S',e= .returned u∧Inv φ' H w' S' B∧Evo H.length B φ S w φ' S' w'∧VRel φ' w' S' q u∧ ∀i,¬ (base≤i∧i<base+ms.length)→φ' i=φ i):=by
 unfold Zgt at R
 cases hq:ZaV (exp ZaL H) args with
 |none=>simp[hq]at R
 |some qs=>
  simp only[hq,Xab]at R
  have C: ∀b,ZcR S φ (args.flatMap (rch ZaL H)) b→b<w.heap.size:=by
   rintro b (U|⟨id,_,l,hl,rfl⟩)
   ·exact hI.stable b U
   ·exact(hI.live id l hl).2.1
  have J:Laid.ok (ZcR S φ (args.flatMap (rch ZaL H))) w:=Laid.mono _ _ _ _ (fun b U=>⟨.inl U,rfl⟩) hI.laid
  have hL:=(Zc9 (Ze4 hI (args.flatMap (rch ZaL H)) ZaL) args qs vals hq hv (fun _ hid=>hid)).1
  cases himp:h.imp f with
  |true=>
   rw[himp,cond_true]at R
   unfold ZwC at R
   cases j:ZdL E f qs base with
   |none=>simp[j]at R
   |some r=>
    obtain⟨v',au,sf⟩:=r
    simp only[j,Xak,Xaf,Prod.mk.injEq]at R
    obtain⟨rfl,rfl,rfl⟩:=R
    unfold ZdL at j
    obtain⟨⟨v,Hc⟩,hg,j⟩:=Zak j
    obtain⟨st,ao,j⟩:=Zak j
    obtain⟨aj,j⟩:=Zar j
    simp only[Xaf,Prod.mk.injEq]at j
    obtain⟨rfl,rfl,rfl⟩:=j
    simp only[Xag]at aj
    refine(hE f qs [] v Hc hg _ _ w w.heap.size vals (Inv.empty _ w C J) (Zgq hL)).mono ?_
    rintro e w' ⟨u,φc,Sc,rfl,ab,ad,ak⟩
    obtain⟨us,h1,h2⟩:=ZtK ak
    obtain⟨av,h3,h4⟩:=Zl8 ao ab h1
    obtain⟨φ',S',h5,h6,h7,h8⟩:=Zmx (base:=base) hI ad.below h3 an aj.2 (by
     cases ag:((st.tm.all fun y=>Zde y.2)&&st.hp.all ZlK)with
     |true=>
      simp only[Xag,Xau]at ag
      refine .inl ⟨Xau.2 ag.2,fun y hy=> ?_⟩
      obtain⟨x,hx,rfl⟩:=Xbq.1 hy
      exact ag.1 x hx
     |false=>
      refine .inr fun b aa U=> ?_
      rw[ag,cond_false]at ai
      rcases ad.old b aa U with hs|⟨id,hid,l,hl,rfl⟩
      ·exact hs
      ·obtain⟨x,_,hx⟩:=Xbd.1 hid
       obtain⟨es,z,m,ae⟩:=Zkr _ _ _ hx
       exact ai id hid l es z m hl ae) h4 (fun y hy=>by
      obtain⟨x,hx,rfl⟩:=Xbq.1 hy
      exact Xau.1 aj.1 x hx)
    refine⟨u,φ',S',rfl,h5,h6,h2 φ' w' S' _ ?_,fun i hi=>h8 i (by simpa using hi)⟩
    rw[List.map_map]at h7
    exact h7
  |false=>
  rw[himp,cond_false]at R
  unfold Zoe at R
  have main: ∀r,Zb8 h E f qs=some r→
   Calls P f vals.toArray w (fun e w'=> ∃u S2,e= .returned u∧Below w.heap.size w w'∧IRel w' S2 r u∧(∀b,S2 b→b<w'.heap.size∧(b<w.heap.size→ZcR S φ (args.flatMap (rch ZaL H)) b))):=by
   intro r j
   unfold Zb8 at j
   cases hp:h.prim f with
   |some g=>
    simp only[hp]at j
    cases hg:g qs with
    |none=>simp[hg]at j
    |some v=>
     simp only[hg,Xab]at j
     refine(hP f g hp qs v hg _ w vals C J hL).mono ?_
     rintro e w' ⟨u,rfl,U,af⟩
     have ah: ∀b,(ZcR S φ (args.flatMap (rch ZaL H)) b∨(w.heap.size≤b∧b<w'.heap.size))→b<w'.heap.size:=
      fun b I=>I.elim (fun h'=>XaJ (C b h') U.size) (fun h'=>h'.2)
     have:=(Ze4 (Inv.empty _ w' ah (Laid.mono _ _ _ _ (fun b I=>⟨.inl I,U.block b (C b I)⟩) J)) [] ZaL v r u j (IRel.toV _ _ af) (by
      intro id hid;have:=Zpt ZaL v id hid;simp at this)).1
     refine⟨u,_,rfl,U,IRel.mono (fun b I=>⟨I.elim id (by rintro⟨id,hid,_⟩;simp at hid),rfl⟩) _ _ this,fun b I=>⟨ah b I,fun aa=>I.elim id (fun h'=>by omega)⟩⟩
   |none=>
    simp only[hp]at j
    cases hg:E.rn f qs []with
    |none=>simp[hg]at j
    |some x=>
     obtain⟨v,Hc⟩:=x
     simp only[hg,Xab]at j
     refine(hE f qs [] v Hc hg _ _ w w.heap.size vals (Inv.empty _ w C J) (Zgq hL)).mono ?_
     rintro e w' ⟨u,φc,Sc,rfl,ab,ad,ak⟩
     have hx:=(Ze4 ab (rch ZaL Hc v) ZaL v r u j ak (fun _ hid=>hid)).1
     refine⟨u,_,rfl,ad.below,hx, ?_⟩
     rintro b (U|⟨id,_,l,hl,rfl⟩)
     ·exact⟨ab.stable b U,fun aa=>ad.old b aa U⟩
     ·have:=ab.live id l hl
      exact⟨this.2.1,fun aa=>by omega⟩
  cases j:Zb8 h E f qs with
  |none=>simp[j]at R
  |some r=>
   simp only[j,Xab]at R
   by_cases hm:h.mem f=true
   ·rw[if_pos hm]at R
    cases R
    refine(main _ j).mono ?_
    rintro e w' ⟨u,S2,rfl,U,af,al⟩
    obtain⟨h1,h2⟩:=hI.foreign U
    refine⟨u,φ,_,rfl,h1,h2,IRel.toV _ _ (IRel.mono (fun b I=>⟨?_,rfl⟩) _ _ af),fun _ _=>rfl⟩
    obtain⟨aa,hold⟩:=al b I
    by_cases aq:b<w.heap.size
    ·rcases hold aq with hs|⟨id,hid,l,hl,rfl⟩
     ·exact .inl hs
     ·obtain⟨x,_,hx⟩:=Xbd.1 hid
      obtain⟨es,z,m,ae⟩:=Zkr _ _ _ hx
      exact .inl (ai id hid l es z m hl ae)
    ·exact .inr ⟨by omega,aa⟩
   ·rw[if_neg hm]at R
    obtain⟨ar,R⟩:=Zar R
    cases R
    refine(main _ j).mono ?_
    rintro e w' ⟨u,S2,rfl,U,af,al⟩
    obtain⟨h1,h2⟩:=hI.foreign U
    exact⟨u,φ,_,rfl,h1,h2,IRel.toV _ _ (Zqq ar af),fun _ _=>rfl⟩
variable {o : Oper} {a : Act} {K : Act → World → Prop} {Q : Exit → Act → World → Prop}
theorem ZvN {s:Sem Value} {u:Value} {w':World} (h:s.run P w= .ok u w'):(do pure (Next.value (←s)):Sem Next).run P w= .ok (.value u) w':=by
 simp[h]
theorem ZcK {u:Value} {w':World} (h:(execOp a.eval o).run P w= .ok (.value u) w') (j:K (a.put o.dst u) w'):o.wp P a w K Q:=by
 unfold Oper.wp;rw[h];exact j
theorem ZfJ {f:FuncId} {args:Array Value} (h:(execOp a.eval o).run P w= .ok (.enter f args) w) (j:Calls P f args w fun e w'=> ∃u,e= .returned u∧K (a.put o.dst u) w'):o.wp P a w K Q:=by
 unfold Oper.wp;rw[h]
 rw[Oper.upon_enter]
 refine j.mono ?_
 rintro e w' ⟨u,rfl,hu⟩
 exact hu
theorem Zc5 {x:Option PV} {v:PV} {ms:List Mem} {fz:List Nat} (h:val x=some (v,ms,fz)):x=some v∧ms=[]∧fz=[]:=by
 unfold val at h
 cases x with
 |none=>simp at h
 |some y=>simp at h;obtain⟨rfl,rfl,rfl⟩:=h;exact⟨rfl,rfl,rfl⟩
def Zwv (P:Program) (f:FuncId):Prop:= ∃fn,P.funcs[f]? =some fn∧fn.body.isSome=true∧(fn.name== "runtime.NumGoroutine")=false
theorem ZeY {f:FuncId} (j:Zwv P f) (args:Array Value):(callFunc f args).run P w= .ok (.enter f args) w:=by
 obtain⟨fn,C,R,I⟩:=j
 have J:fn.body.isNone=false:=by cases U:fn.body<;>simp_all
 simp only[callFunc,Sem.run_bind,run_program,Result.andThen_ok,C,I,J,XaG,if_false,Sem.run_pure]
end
variable [Laid]
open Go.RowKit
structure Good (P:Program) (h:Hints) (E:Ev):Prop where
 rn:Zoi P E
 prim:Zck P h
 len: ∀f args H v H',E.rn f args H=some (v,H')→H.length≤H'.length
 fnOk: ∀f,(∃args H r,E.rn f args H=some r)∨(h.prim f).isSome=true→Zwv P f
def simM:Mem→Mem→Prop
 | .row es z _, .row es' z' _=>es=es'∧z=z'
 | .map es, .map es'=>es=es'
 | .dead, .dead=>True
 |_,_=>False
theorem simM.refl (m:Mem):simM m m:=by cases m<;>simp[simM]
section
variable {P : Program} {h : Hints} {E : Ev} {w : World} {φ : Phi} {S : Nat → Prop} {B : Nat} {H : List Mem} {tm : List (Nat × PV)} {N : Nat} {o : Oper} {a : Act} {K : Act → World → Prop} {Q : Exit → Act → World → Prop}
theorem Zn9 (C:Good P h E) {f:FuncId} {I:List PV} {q:PV} (j:Zb8 h E f I=some q):Zwv P f:=by
 unfold Zb8 at j
 cases hp:h.prim f with
 |some g=>exact C.fnOk f (.inr (by simp[hp]))
 |none=>
  simp only[hp]at j
  cases J:E.rn f I []with
  |none=>simp[J]at j
  |some r=>exact C.fnOk f (.inl ⟨_,_,_,J⟩)
theorem ZpD (C:Good P h E) {f:FuncId} {args:List PV} {base:Nat} {r:PV×List Mem×List Nat} (j:Zgt h E f args H base=some r):Zwv P f:=by
 unfold Zgt at j
 cases I:ZaV (exp ZaL H) args with
 |none=>simp[I]at j
 |some J=>
  simp only[I,Xab]at j
  cases himp:h.imp f with
  |true=>
   rw[himp,cond_true]at j
   unfold ZwC ZdL at j
   cases R:E.rn f J []with
   |none=>simp[R]at j
   |some r=>exact C.fnOk f (.inl ⟨_,_,_,R⟩)
  |false=>
   rw[himp,cond_false]at j
   unfold Zoe at j
   cases U:Zb8 h E f J with
   |none=>simp[U]at j
   |some q=>exact Zn9 C U
theorem ZmG: ∀ (l:List PV) (x p:PV) (vs:List Value) (v:Value),ZhZ min2 l x=some p→VL φ w S l vs→VRel φ w S x v→ ∃u,(vs.foldlM Builtin.min2 v).run P w= .ok u w∧VRel φ w S p u
 | [],x,p,vs,v,h,C,I=>by
  simp[ZhZ]at h;subst h
  simp only[VL]at C;subst C
  exact⟨v,rfl,I⟩
 |y::l,x,p,vs,v,h,C,I=>by
  simp only[ZhZ]at h
  cases j:min2 x y with
  |none=>simp[j]at h
  |some z=>
   simp only[j,Xab]at h
   simp only[VL]at C
   obtain⟨u,r,rfl,hu,R⟩:=C
   unfold min2 at j
   split at j
   ·rename_i k a k' b
    obtain⟨U,J⟩:=Zar j
    subst U
    cases J
    simp only[VRel]at I hu
    subst I;subst hu
    obtain⟨u,h2,h3⟩:=ZmG l _ p r (.int k (if b<a then b else a)) h R (Zbj _ _)
    exact⟨u,by simp[Builtin.min2,h2],h3⟩
   ·cases j
theorem ZmR: ∀ (l:List PV) (x p:PV) (vs:List Value) (v:Value),ZhZ max2 l x=some p→VL φ w S l vs→VRel φ w S x v→ ∃u,(vs.foldlM Builtin.max2 v).run P w= .ok u w∧VRel φ w S p u
 | [],x,p,vs,v,h,C,I=>by
  simp[ZhZ]at h;subst h
  simp only[VL]at C;subst C
  exact⟨v,rfl,I⟩
 |y::l,x,p,vs,v,h,C,I=>by
  simp only[ZhZ]at h
  cases j:max2 x y with
  |none=>simp[j]at h
  |some z=>
   simp only[j,Xab]at h
   simp only[VL]at C
   obtain⟨u,r,rfl,hu,R⟩:=C
   unfold max2 at j
   split at j
   ·rename_i k a k' b
    obtain⟨U,J⟩:=Zar j
    subst U
    cases J
    simp only[VRel]at I hu
    subst I;subst hu
    obtain⟨u,h2,h3⟩:=ZmR l _ p r (.int k (if b>a then b else a)) h R (Zbj _ _)
    exact⟨u,by simp[Builtin.max2,h2],h3⟩
   ·cases j
theorem Zjt (hI:Inv φ H w S B) {b:Builtin} {ts:Array TypeId} {ty:TypeId} {cs:Array Bool} {vs:List PV} {p:PV} {us:List Value} (j:Zbp P H b ts vs=some p) (C:VL φ w S vs us):
 ∃u,(builtin b ts ty cs us.toArray).run P w= .ok (.value u) w∧VRel φ w S p u:=by
 unfold Zbp at j
 split at j
 ·rename_i x
  simp only[VL]at C
  obtain⟨u,r,rfl,hu,rfl⟩:=C
  cases R:ts[0]? with
  |none=>simp[R]at j
  |some t=>
   simp only[R,Xab]at j
   obtain⟨v,I,J⟩:=ZnD (P:=P) (ts:=ts) (ty:=ty) hI R j hu
   exact⟨v,by simp[builtin,I],J⟩
 ·rename_i x r
  simp only[VL]at C
  obtain⟨u,U,rfl,hu,hr⟩:=C
  obtain⟨v,I,J⟩:=ZmG (P:=P) r x p U u j hr hu
  exact⟨v,by simp[builtin,Builtin.min_,I],J⟩
 ·rename_i x r
  simp only[VL]at C
  obtain⟨u,U,rfl,hu,hr⟩:=C
  obtain⟨v,I,J⟩:=ZmR (P:=P) r x p U u j hr hu
  exact⟨v,by simp[builtin,Builtin.max_,I],J⟩
 ·cases j
theorem FrzM.sim {m j:Mem} (h:FrzM m j):simM m j:=by
 rcases h with rfl|⟨es,z,b,rfl,rfl⟩
 ·exact simM.refl _
 ·simp[simM]
theorem Zsu (hG:Good P h E) {Hs:List Mem} {base:Nat} {v:PV} {ms:List Mem} {fz:List Nat} (hI:Inv φ Hs w S B) (U:TRel φ w S N tm a) (C:opR P h E Hs base (ev tm) o=some (v,ms,fz)) (aj:Zxj Hs φ base ms)
 (au: ∀id∈fz,∀l es z m,φ id=some l→Hs[id]? =some (.row es z m)→S l.b)
 (hK: ∀u w' φ' S',Inv φ' Hs w' S' B→Evo Hs.length B φ S w φ' S' w'→VRel φ' w' S' v u→(∀i,¬ (base≤i∧i<base+ms.length)→φ' i=φ i)→K (a.put o.dst u) w'):o.wp P a w K Q:=by
 have same: ∀ {u:Value},(execOp a.eval o).run P w= .ok (.value u) w→VRel φ w S v u→o.wp P a w K Q:=fun hr hv=>
  ZcK hr (hK _ w φ S hI (Evo.refl _ _ _ _ _) hv (fun _ _=>rfl))
 have rdv: ∀ {x:Option PV} {s:Sem Value},val x=some (v,ms,fz)→execOp a.eval o=(do pure (Next.value (←s)):Sem Next)→(∀p,x=some p→ ∃u,s.run P w= .ok u w∧VRel φ w S p u)→o.wp P a w K Q:=by
  intro x s hx he hs
  obtain⟨hx,_,_⟩:=Zc5 hx
  obtain⟨u,R,I⟩:=hs v hx
  exact same (by rw[he];exact ZvN R) I
 have newRow: ∀ {es:List (List PV)} {z:Nat} {cur:Array Value} {e:TypeId} {u:Value} {vs:List Value},ms=[Mem.row es z true]→(execOp a.eval o).run P w= .ok (.value u) (w.alloc (.cells cur e))→(∀c∈es,c.length=z)→VL φ w S es.flatten vs→
  (∀c∈es.flatten,Zcr c=true)→(∀ (j:Nat) (x:Value),vs[j]? =some x→cur[j]? =some x)→es.length*z≤cur.size→
  (∀φ' S',φ' base=some ⟨w.heap.size,0,z,cur.size⟩→VRel φ' (w.alloc (.cells cur e)) S' v u)→o.wp P a w K Q:=by
  intro es z cur e u vs hm hr hw hv R hc an ao
  subst hm
  obtain⟨m',ae,af,ab⟩:=aj 0 _ rfl
  have aa:=af.sim
  simp only[Nat.add_zero]at ae ab
  cases m' with
  |row es' z' b=>
   simp only[simM]at aa
   obtain⟨rfl,rfl⟩:=aa
   obtain⟨φ',S',I,h3,h4,h5⟩:=hI.add (fz:=(0,0)) (Ziu w _) ab ae (Zgr w _) hw hv R hc an (by intro j hj;simp)
   refine ZcK hr (hK _ _ φ' S' I h3 (ao φ' S' h4) ?_)
   intro i hi
   exact h5 i (by rintro rfl;exact hi ⟨Xan _,by simp⟩)
  |map _=>simp[simM]at aa
  |dead=>simp[simM]at aa
 unfold opR at C
 cases J:o.op with
 |move x=>
  simp only[J]at C
  obtain⟨hx,_,_⟩:=Zc5 C
  exact same (by simp[execOp,J]) (ZaA U hx)
 |assign x=>
  simp only[J]at C
  obtain⟨hx,_,_⟩:=Zc5 C
  exact same (by simp[execOp,J]) (ZaA U hx)
 |pick c x y=>
  simp only[J]at C
  obtain⟨hx,_,_⟩:=Zc5 C
  unfold Zqb at hx
  obtain⟨t,R,I⟩:=Zak hx
  cases t<;>simp only[]at I<;>try (cases I;done)
  rename_i b
  have hb:=ZaA U R
  simp only[VRel]at hb
  cases b
  ·exact same (by simp[execOp,J,hb,asBool]) (ZaA U I)
  ·exact same (by simp[execOp,J,hb,asBool]) (ZaA U I)
 |alloc t=>
  simp only[J,Zm1]at C
  cases hz:Zdn P t with
  |none=>simp[hz]at C
  |some cs=>
   simp only[hz,Xak,Xaf,Prod.mk.injEq]at C
   obtain⟨rfl,rfl,rfl⟩:=C
   obtain⟨i,zv,hi,ak,hv,R⟩:=Zch (w:=w) (φ:=φ) (S:=S) hz
   refine newRow rfl (u:= .pointer (some ⟨w.heap.size,0,none⟩)) (cur:=zv.cells) (e:=t) (vs:=zv.cells.toList) ?_ (by simp) (by simpa using hv) (by simpa using R) (by simp) (by have:=VL.length hv;simp at this⊢;omega) ?_
   ·simp[execOp,J,Instr.alloc,zeroValue,typeInfo,hi,ak,newVar,Go.newRow]
   ·intro φ' S' ab;simp only[VRel];exact⟨_,ab,by simp⟩
 |box t x=>
  simp only[J,Zzq]at C
  cases hz:(ev tm x).bind ZhS with
  |none=>simp[hz]at C
  |some p=>
   simp only[hz,Xak,Xaf,Prod.mk.injEq]at C
   obtain⟨rfl,rfl,rfl⟩:=C
   obtain⟨hx,hn⟩:=Zfl hz
   obtain⟨hv,R⟩:=ZfI (ZaA U hx) hn
   refine newRow rfl (u:= .pointer (some ⟨w.heap.size,0,none⟩)) (cur:=(a.eval x).cells) (e:=t) (vs:=(a.eval x).cells.toList) ?_ (by simp) (by simpa using hv) (by simpa using R) (by simp) (by have:=VL.length hv;simp at this⊢;omega) ?_
   ·simp[execOp,J,Instr.box,newVar,Go.newRow]
   ·intro φ' S' ab;simp only[VRel];exact⟨_,ab,by simp⟩
 |build t parts=>
  simp only[J]at C
  refine rdv C (by rw[execOp,J]) fun p hp=> ?_
  unfold Zkf at hp
  obtain⟨ps,R,I⟩:=Zak hp
  exact Zls I (by have:=Zeo U R;simpa using this)
 |buildSlice t n parts=>
  simp only[J,ZbM]at C
  obtain⟨ps,R,I⟩:=Zak C
  cases hb:Zbm P t n ps with
  |none=>simp[hb]at I
  |some m=>
   simp only[hb,Xak,Xaf,Prod.mk.injEq]at I
   obtain⟨rfl,rfl,rfl⟩:=I
   obtain⟨es,z,arr,e,rfl,hr,hl,hv,av,hw⟩:=ZgK (P:=P) (ps:=parts.map fun(i,x)=>(i,a.eval x)) hb (by have:=Zeo U R;simpa using this)
   have ag:arr.size=n*z:=by have:=VL.length hv;rw[ZaU es hw,hl]at this;simpa using this
   refine newRow rfl (u:= .slice (some ⟨w.heap.size,0,none⟩) n n) (cur:=arr) (e:=e) (vs:=arr.toList) ?_ hw hv av (by simp) (by rw[hl,ag];exact Xan _) ?_
   ·simp only[execOp,J];exact ZvN hr
   ·intro φ' S' ab;simp only[VRel];exact⟨_,_,n,ab,rfl,Xan _,Xan _, .inr ⟨by simp,by simp[ag]⟩⟩
 |load t x=>
  simp only[J]at C
  refine rdv C (by rw[execOp,J]) fun p hp=> ?_
  obtain⟨q,R,I⟩:=Zak hp
  exact ZhH hI I (ZaA U R)
 |nilCheck x=>
  simp only[J]at C
  obtain⟨hx,_,_⟩:=Zc5 C
  unfold Zdl at hx
  obtain⟨q,R,I⟩:=Zak hx
  have hq:=ZaA U R
  cases q<;>simp only[]at I<;>try (cases I;done)
  ·cases I
   simp only[VRel]at hq
   obtain⟨l,hl,hq⟩:=hq
   exact same (u:=a.eval x) (by simp[execOp,J,hq]) (by rw[hq];simp only[VRel];exact⟨l,hl,rfl⟩)
  ·cases I
   have ad:=hq
   simp only[VRel,IRel]at ad
   obtain⟨b,oo,ad,_⟩:=ad
   exact same (u:=a.eval x) (by simp[execOp,J,ad]) hq
  ·cases I
   have ad:=hq
   simp only[VRel]at ad
   obtain⟨fs,cs,ad,_⟩:=ad
   exact same (u:=a.eval x) (by simp[execOp,J,ad]) hq
 |binOp op t x y yt=>
  simp only[J]at C
  refine rdv (s:=(do eqGuard op t x y (a.eval x) (a.eval y);binOp op t (a.eval x) (a.eval y))) C (by rw[execOp,J]) fun p hp=> ?_
  unfold Znk at hp
  split at hp
  ·rename_i r hr
   cases hp
   obtain⟨q,r,R,I,h3⟩:=ZnR hr
   exact Zns h3 (ZaA U R) (ZaA U I)
  ·cases hx:ev tm x with
   |none=>rw[hx,ZtF]at hp;cases hp
   |some q=>
    rw[hx]at hp
    exact ZqE hp (ZaA U hx) fun e=>by rw[e];rfl
 |makeInterface t x=>
  simp only[J]at C
  refine rdv C (by rw[execOp,J]) fun p hp=> ?_
  obtain⟨q,R,I⟩:=Zak (show((ev tm x).bind fun v=>Zgj P t (some v))=some p from hp)
  exact ZlJ I (ZaA U R)
 |typeAssert x xt u ok=>
  simp only[J]at C
  refine rdv C (by rw[execOp,J]) fun p hp=> ?_
  obtain⟨q,R,I⟩:=Zak (show((ev tm x).bind fun v=>Zdf P (some v) u ok)=some p from hp)
  exact ZkP I (ZaA U R)
 |unOp op t x=>
  simp only[J]at C
  refine rdv C (by rw[execOp,J]) fun p hp=> ?_
  obtain⟨q,R,I⟩:=Zak hp
  exact ZqM I (ZaA U R)
 |convert s d x=>
  simp only[J]at C
  obtain⟨hx,rfl,rfl⟩:=Zc5 C
  obtain⟨q,R,I⟩:=Zak hx
  obtain⟨u,w',S',h3,h4,h5,h6⟩:=Zmp (P:=P) hI I (ZaA U R)
  exact ZcK (by simp only[execOp,J];exact ZvN h3) (hK _ w' φ S' h4 h5 h6 (fun _ _=>rfl))
 |makeFunc fn first ah=>
  simp only[J]at C
  obtain⟨hx,_,_⟩:=Zc5 C
  unfold Zqt at hx
  split at hx
  ·rename_i f
   obtain⟨as,R,I⟩:=Zak hx
   cases h3:ZaV (ev tm) ah.toList with
   |none=>simp[h3]at I
   |some cs=>
    simp only[h3,Xak,Xaf]at I
    subst I
    refine same (u:= .func (.func f) (first.map a.eval) (ah.map a.eval)) (by simp[execOp,J,Instr.makeFunc]) ?_
    simp only[VRel]
    exact⟨_,_,rfl,by simpa using Zb4 U R,by simpa using Zb4 U h3⟩
  ·cases hx
 |makeMap t r=>
  simp only[J,Zff]at C
  cases r with
  |some _=>simp at C
  |none=>
   simp only[]at C
   cases hs:Zjy P t with
   |none=>simp[hs]at C
   |some e=>
    simp only[hs,Xak,Xaf,Prod.mk.injEq]at C
    obtain⟨rfl,rfl,rfl⟩:=C
    obtain⟨m',ae,af,ab⟩:=aj 0 _ rfl
    have aa:=af.sim
    simp only[Nat.add_zero]at ae ab
    cases m' with
    |map es'=>
     simp only[simM]at aa
     subst aa
     obtain⟨φ',S',I,h3,h4,h5⟩:=hI.addMap (Ziu w (.map #[] 0)) ab ae (Zgr w _)
     refine ZcK (u:= .map (some w.heap.size)) (w':=w.alloc (.map #[] 0)) (by simp[execOp,J,Instr.makeMap]) (hK _ _ φ' S' I h3 (by simp only[VRel];exact⟨_,h4,rfl⟩) ?_)
     intro i hi
     exact h5 i (by rintro rfl;exact hi ⟨Xan _,by simp⟩)
    |row _ _ _=>simp[simM]at aa
    |dead=>simp[simM]at aa
 |makeSlice t l c=>
  simp only[J,Zcy]at C
  obtain⟨lv,cv,R,I,h3⟩:=ZnR C
  cases hb:Zfm P t lv cv with
  |none=>simp[hb]at h3
  |some g=>
   simp only[hb,Xak,Xaf,Prod.mk.injEq]at h3
   obtain⟨rfl,rfl,rfl⟩:=h3
   unfold Zfm at hb
   split at hb
   ·rename_i k1 l' k2 c'
    have hl:=ZaA U R
    have hc:=ZaA U I
    simp only[VRel]at hl hc
    cases he:Zip P t with
    |none=>simp[he]at hb
    |some e=>
     have hu:=Zd1 he
     simp only[he,Xab]at hb
     obtain⟨z,h4,hb⟩:=Zak hb
     obtain⟨by_,h5,hb⟩:=Zak hb
     obtain⟨zero,h6,hb⟩:=Zak hb
     obtain⟨⟨aw,ax,ay,a7,a8,aq⟩,hb⟩:=Zar hb
     cases hb
     obtain⟨i,zv,hi,ak,hv,az⟩:=Zch (w:=w) (φ:=φ) (S:=S) h6
     have ag:i.size=z:=by unfold Za1 at h4;rw[hi]at h4;simpa using h4
     have a1:i.bytes=by_:=by unfold ZiU at h5;rw[hi]at h5;simpa using h5
     have a6:zv.cells.size=z:=by have:=VL.length hv;simpa[aq]using this
     have ai:=run_make (P:=P) w t e i zv hu hi ak k1 k2 l' c' aw ax (by rw[a1];exact ay) (by omega)
     rw[ag]at ai
     have ar: ∀k,VL φ w S (List.replicate k zero).flatten (List.replicate k zv.cells.toList).flatten:=by
      intro k
      induction k with
      |zero=>simp[VL]
      |succ k ih=>simp only[List.replicate_succ,XbK];exact VL.append hv ih
     have al:(madeCells zv.cells (c'.toNat*z)).toList=(List.replicate c'.toNat zv.cells.toList).flatten:=by rw[←a6];exact ZcT _ _
     have hle:l'.toNat≤c'.toNat:=by omega
     refine newRow rfl (u:= .slice (some ⟨w.heap.size,0,none⟩) l'.toNat c'.toNat) (cur:=madeCells zv.cells (c'.toNat*z)) (e:=e) (vs:=(List.replicate c'.toNat zv.cells.toList).flatten) ?_ ?_ (ar _) ?_ ?_ ?_ ?_
     ·simp only[execOp,J,hl,hc];exact ZvN ai
     ·intro x hx;rw[(List.mem_replicate.1 hx).2];exact aq
     ·intro x hx;simp only[List.mem_flatten,List.mem_replicate]at hx;obtain⟨y,⟨_,rfl⟩,hx⟩:=hx;exact az x hx
     ·intro j x hj
      have:(madeCells zv.cells (c'.toNat*z)).toList[j]? =some x:=by
       rw[al]
       exact hj
      simpa using this
     ·simp only[List.length_replicate,size_madeCells];exact Xan _
     ·intro φ' S' ab;simp only[VRel];exact⟨_,_,c'.toNat,ab,rfl,hle,Xan _, .inr ⟨by simp,by simp[size_madeCells]⟩⟩
   ·cases hb
 |slice t x lo hi mx=>
  simp only[J]at C
  refine rdv C (by rw[execOp,J]) fun p hp=> ?_
  unfold Zcd at hp
  obtain⟨q,R,hp⟩:=Zak hp
  obtain⟨l,I,hp⟩:=Zak hp
  obtain⟨k,h3,hp⟩:=Zak hp
  obtain⟨m,h4,hp⟩:=Zak hp
  exact Zlf hI hp (ZaA U R) (Zhj U I) (Zhj U h3) (Zhj U h4)
 |fieldAddr s x f=>
  simp only[J]at C
  refine rdv C (by rw[execOp,J]) fun p hp=> ?_
  obtain⟨q,R,I⟩:=Zak hp
  exact ZgU I (ZaA U R)
 |field s x f=>
  simp only[J]at C
  refine rdv C (by rw[execOp,J]) fun p hp=> ?_
  obtain⟨q,R,I⟩:=Zak hp
  exact Zk2 I (ZaA U R)
 |indexAddr t x i=>
  simp only[J]at C
  refine rdv C (by rw[execOp,J]) fun p hp=> ?_
  obtain⟨q,r,R,I,h3⟩:=ZnR hp
  exact Zhm hI h3 (ZaA U R) (ZaA U I)
 |index t x i=>
  simp only[J]at C
  refine rdv C (by rw[execOp,J]) fun p hp=> ?_
  obtain⟨q,r,R,I,h3⟩:=ZnR hp
  exact ZkS h3 (ZaA U R) (ZaA U I)
 |lookup t x k ok=>
  simp only[J]at C
  refine rdv C (by rw[execOp,J]) fun p hp=> ?_
  obtain⟨q,r,R,I,h3⟩:=ZnR hp
  exact Zjs hI h3 (ZaA U R) (ZaA U I)
 |extract x i=>
  simp only[J]at C
  refine rdv C (by rw[execOp,J]) fun p hp=> ?_
  have hp':=hp
  unfold Zes at hp'
  obtain⟨q,R,_⟩:=Zak hp'
  rw[R]at hp
  exact ZkZ hp (ZaA U R)
 |call c=>
  simp only[J,Zhz]at C
  cases hc:c.callee with
  |builtin b=>
   simp only[hc]at C
   obtain⟨hx,_,_⟩:=Zc5 C
   obtain⟨vs,R,I⟩:=Zak hx
   obtain⟨u,h3,h4⟩:=Zjt (P:=P) (ty:=o.type) (cs:=c.args.map fun| .const _=>true|_=>false) hI I (Zb4 U R)
   refine same (u:=u) ?_ h4
   simp only[execOp,J,resolve,hc,Sem.run_bind,Sem.run_pure,Result.andThen_ok,invoke]
   rw[show c.args.map a.eval=(c.args.toList.map a.eval).toArray from by rw[←Array.toList_map,Array.toArray_toList]]
   exact h3
  |value x=>
   cases x with
   |func f=>
    simp only[hc,ZeQ]at C
    obtain⟨ba,C⟩:=Zi9 C
    obtain⟨vs,R,I⟩:=Zak C
    have h3:=ZiV hG.rn hG.prim hI I (Zb4 U R) aj au
    refine ZfJ (f:=f) (args:=(c.args.toList.map a.eval).toArray) ?_ (h3.mono ?_)
    ·simp only[execOp,J,resolve,hc,Act.eval,Deferred.ofValue,Sem.run_bind,Sem.run_pure,Result.andThen_ok,invoke]
     rw[ZeY (ZpD hG I),show c.args.map a.eval=(c.args.toList.map a.eval).toArray from by rw[←Array.toList_map,Array.toArray_toList]]
     simp only[Array.empty_append,Array.append_empty]
    ·rintro e w' ⟨u,φ',S',rfl,h4,h5,h6,h7⟩
     exact⟨u,rfl,hK u w' φ' S' h4 h5 h6 h7⟩
   |_=>simp[hc]at C
  |invoke _ _=>simp[hc]at C
 |_=>simp[J]at C
end
variable [Laid]
open Go.RowKit
section
variable {P : Program} {h : Hints} {E : Ev} {w : World} {φ : Phi} {S : Nat → Prop} {B : Nat} {H : List Mem}
theorem Zc3 (b:Nat): ∀ (vs:List Value) (o:Nat) (w:World),(w.setCells b o vs).heap.size=w.heap.size
 | [],_,_=>rfl
 |v::r,o,w=>by rw[World.setCells,Zc3 b r];simp
theorem Zb5 (b:Nat): ∀ (vs:List Value) (o:Nat) (w:World),(w.setCells b o vs).os=w.os∧(w.setCells b o vs).tape=w.tape∧(w.setCells b o vs).output=w.output
 | [],_,_=>⟨rfl,rfl,rfl⟩
 |v::r,o,w=>by rw[World.setCells];exact Zb5 b r (o+1) _
theorem ZbA (b:Nat): ∀ (vs:List Value) (o:Nat) (w:World) (k:Nat),k≠b→(w.setCells b o vs).heap[k]? =w.heap[k]?
 | [],_,_,_,_=>rfl
 |v::r,o,w,k,j=>by
  rw[World.setCells,ZbA b r (o+1) _ k j]
  exact Below.heap_setCell w ⟨b,o,none⟩ v k j
theorem ZdN (b:Nat): ∀ (vs:List Value) (o:Nat) (w:World) (cur:Array Value) (e:TypeId) (fz:Nat×Nat),w.heap[b]? =some (.cells cur e fz)→ ∃j,(w.setCells b o vs).heap[b]? =some (.cells j e fz)∧j.size=cur.size
 | [],_,_,cur,_,_,h=>⟨cur,h,rfl⟩
 |v::r,o,w,cur,e,fz,h=>by
  rw[World.setCells]
  have C:(w.setCell ⟨b,o,none⟩ v).heap[b]? =some (.cells (cur.setIfInBounds o v) e fz):=by
   simp[World.setCell,Array.getElem?_modify,h]
  obtain⟨j,I,J⟩:=ZdN b r (o+1) _ _ e fz C
  exact⟨j,I,by simpa using J⟩
theorem VC.keep {φ':Phi} {b j:Nat} {vs:List Value} (hp: ∀id l,φ id=some l→φ' id=some l) (C: ∀k,S k→S k∧(w.setCells b j vs).heap[k]? =w.heap[k]?):
 ∀ (l:List PV) (o:Nat),(o+l.length≤j∨j+vs.length≤o)→VC φ w S l b o→VC φ' (w.setCells b j vs) S l b o
 | [],_,_,_=>trivial
 |p::ps,o,I,h=>by
  obtain⟨⟨J,v,R,U⟩,ht⟩:=h
  simp only[Xap]at I
  refine⟨⟨J,v, ?_,VRel.mono hp C p v U⟩,VC.keep hp C ps (o+1) (by omega) ht⟩
  rw[World.cell?_setCells_out b vs j w ⟨b,o,none⟩ (fun _ _=>by show o<j∨j+vs.length≤o;omega)]
  exact R
theorem VC.fresh {φ':Phi} {b o:Nat} {cs:List PV} {vs:List Value} (hp: ∀id l,φ id=some l→φ' id=some l) (J: ∀k,S k→S k∧(w.setCells b o vs).heap[k]? =w.heap[k]?) (C:VL φ w S cs vs) (R: ∀c∈cs,Zcr c=true)
 (U: ∀j,j<vs.length→(w.cell? ⟨b,o+j,none⟩).isSome=true):VC φ' (w.setCells b o vs) S cs b o:=by
 refine VC.of_vals (VL.mono hp J _ _ C) R fun j v hj=> ?_
 obtain⟨I,C⟩:=Xae.1 hj
 rw[World.cell?_setCells_in b vs o w U j I,C]
theorem VC.spliced {φ':Phi} {b o k:Nat} {xs cs:List PV} {vs:List Value} (hp: ∀id l,φ id=some l→φ' id=some l) (C: ∀j,S j→S j∧(w.setCells b (o+k) vs).heap[j]? =w.heap[j]?) (I:VC φ w S xs b o) (J:VL φ w S cs vs) (R: ∀c∈cs,Zcr c=true)
 (hk:k+cs.length≤xs.length) (U: ∀j,j<vs.length→(w.cell? ⟨b,o+k+j,none⟩).isSome=true):VC φ' (w.setCells b (o+k) vs) S (splice xs k cs) b o:=by
 have hl:=VL.length J
 unfold splice
 refine VC.append (VC.keep hp C _ _ (.inl (by rw[Xas];omega)) (VC.take k I)) (VC.append ?_ ?_)
 ·rw[Xas,XaL (by omega)]
  exact VC.fresh hp C J R U
 ·rw[Xas,XaL (by omega)]
  refine VC.keep hp C _ _ (.inr (by omega)) ?_
  rw[Xbt]
  exact VC.drop _ (by omega) I
theorem Inv.patch {w':World} {id:Nat} {l:Loc} {es':List (List PV)} {z:Nat} {φ':Phi} {H':List Mem} (hI:Inv φ H w S B) (hid:φ' id=some l) (C: ∀i,i≠id→φ' i=φ i) (ah:φ id=none∨φ id=some l)
 (hH:H'[id]? =some (.row es' z true)) (aa: ∀i l',i≠id→φ i=some l'→H'[i]? =H[i]?∨H'[i]? =some .dead) (hlen:H.length≤H'.length)
 (R:w'.os=w.os∧w'.tape=w.tape∧w'.output=w.output) (U:w'.heap.size=w.heap.size) (J: ∀b,b≠l.b→w'.heap[b]? =w.heap[b]?) (hS: ¬S l.b) (hB:B≤l.b) (al:l.b<w.heap.size)
 (ab: ∀j lj m,j≠id→φ j=some lj→H'[j]? =some m→m.alive=true→lj.b≠l.b) (ai:RowAt φ' w' S l es' z true):Inv φ' H' w' S B∧Evo H.length B φ S w φ' S w':=by
 have hp: ∀i x,φ i=some x→φ' i=some x:=by
  intro i x I
  by_cases hi:i=id
  ·subst hi
   rcases ah with hn|hn
   ·rw[hn]at I;cases I
   ·rw[hn]at I;rw[hid];exact I
  ·rw[C i hi];exact I
 have hs: ∀b,S b→S b∧w'.heap[b]? =w.heap[b]? :=fun b hb=>⟨hb,J b (by rintro rfl;exact hS hb)⟩
 have aj:id<H'.length:=(Xae.1 hH).1
 refine⟨⟨?_, ?_, ?_, ?_,fun b hb=>by rw[U];exact hI.stable b hb,by rw[U];exact hI.base,Laid.mono _ _ _ _ hs hI.laid⟩,fun i x _ h=>hp i x h,hs,fun _ _ I=>I,R.1,R.2.1,R.2.2,by rw[U];exact Xan _,fun k hk=>J k (by omega)⟩
 ·intro i x I
  by_cases hi:i=id
  ·subst hi;rw[hid]at I;cases I;exact⟨hB,by rw[U];exact al,aj⟩
  ·rw[C i hi]at I
   have:=hI.live i x I
   exact⟨this.1,by rw[U];exact this.2.1,by omega⟩
 ·intro i x es z' m I hm
  by_cases hi:i=id
  ·subst hi
   rw[hid]at I;cases I
   rw[hH]at hm;cases hm
   exact ai
  ·rw[C i hi]at I
   rcases aa i x hi I with he|he
   ·rw[he]at hm
    have ae:=ab i x _ hi I (by rw[he];exact hm) rfl
    exact(hI.row i x es z' m I hm).mono hp hs (J _ ae) (fun y=>y)
   ·rw[he]at hm;cases hm
 ·intro i x es I hm
  by_cases hi:i=id
  ·subst hi;rw[hH]at hm;cases hm
  ·rw[C i hi]at I
   rcases aa i x hi I with he|he
   ·rw[he]at hm
    have ae:=ab i x _ hi I (by rw[he];exact hm) rfl
    obtain⟨h3,ak,clock,h4,h5⟩:=hI.map i x es I hm
    exact⟨h3,ak,clock,by rw[J _ ae];exact h4,VMc.mono hp hs h5⟩
   ·rw[he]at hm;cases hm
 ·intro i j x y m m' af I hy hm ad ha ag
  by_cases hi:i=id
  ·subst hi
   rw[hid]at I;cases I
   rw[C j (fun e=>af e.symm)]at hy
   exact fun e=>ab j y m' (fun e=>af e.symm) hy ad ag e.symm
  ·by_cases hj:j=id
   ·subst hj
    rw[hid]at hy;cases hy
    rw[C i hi]at I
    exact ab i x m hi I hm ha
   ·rw[C i hi]at I;rw[C j hj]at hy
    have e1:H[i]? =some m:=by
     rcases aa i x hi I with he|he
     ·rw[←he];exact hm
     ·rw[he]at hm;cases hm;simp[Mem.alive]at ha
    have e2:H[j]? =some m':=by
     rcases aa j y hj hy with he|he
     ·rw[←he];exact ad
     ·rw[he]at ad;cases ad;simp[Mem.alive]at ag
    exact hI.apart i j x y m m' af I hy e1 e2 ha ag
theorem Inv.reheap {H':List Mem} (hI:Inv φ H w S B) (I: ∀i l',φ i=some l'→H'[i]? =H[i]?∨H'[i]? =some .dead) (hlen:H.length≤H'.length):Inv φ H' w S B where
 live:=fun i x C=>by have:=hI.live i x C;exact⟨this.1,this.2.1,by omega⟩
 row:=by
  intro i x es z m C hm
  rcases I i x C with he|he
  ·rw[he]at hm;exact hI.row i x es z m C hm
  ·rw[he]at hm;cases hm
 map:=by
  intro i x es C hm
  rcases I i x C with he|he
  ·rw[he]at hm;exact hI.map i x es C hm
  ·rw[he]at hm;cases hm
 apart:=by
  intro i j x y m m' U C hy hm J ha R
  have e1:H[i]? =some m:=by
   rcases I i x C with he|he
   ·rw[←he];exact hm
   ·rw[he]at hm;cases hm;simp[Mem.alive]at ha
  have e2:H[j]? =some m':=by
   rcases I j y hy with he|he
   ·rw[←he];exact J
   ·rw[he]at J;cases J;simp[Mem.alive]at R
  exact hI.apart i j x y m m' U C hy e1 e2 ha R
 stable:=hI.stable
 base:=hI.base
 laid:=hI.laid
theorem Zd4 {l:Loc} {es:List (List PV)} {z:Nat} (j:RowAt φ w S l es z true) (k:Nat) (J:k<l.top):(w.cell? ⟨l.b,l.o+k,none⟩).isSome=true∧w.frozen? ⟨l.b,l.o+k,none⟩=false:=by
 obtain⟨cur,e,fz,C,R,I⟩:=j.blk
 refine⟨?_,I rfl _ (by omega)⟩
 simp only[World.cell?,C]
 simp[show l.o+k<cur.size from by omega]
theorem RowAt.set {φ':Phi} {l:Loc} {es es':List (List PV)} {z k:Nat} {cs:List PV} {vs:List Value} (C:RowAt φ w S l es z true) (hp: ∀id l,φ id=some l→φ' id=some l) (he:es'.flatten=splice es.flatten k cs) (hw: ∀x∈es',x.length=z) (hl:es'.length=es.length)
 (U:VL φ w S cs vs) (R: ∀c∈cs,Zcr c=true) (hk:k+cs.length≤es.flatten.length):RowAt φ' (w.setCells l.b (l.o+k) vs) S l es' z true where
 zs:=C.zs
 top:=by rw[hl];exact C.top
 wid:=hw
 cells:=by
  have hs: ∀j,S j→S j∧(w.setCells l.b (l.o+k) vs).heap[j]? =w.heap[j]? :=fun j J=>⟨J,ZbA _ _ _ _ _ (by rintro rfl;exact C.own rfl J)⟩
  refine VE.of_flat ?_
  rw[he]
  have ab:=ZaU es C.wid
  have aa:=C.top
  refine VC.spliced hp hs (VE.flat C.cells) U R hk fun j J=> ?_
  have:=VL.length U
  rw[Xbt]
  exact(Zd4 C (k+j) (by omega)).1
 blk:=by
  obtain⟨cur,e,fz,R,h2,h3⟩:=C.blk
  obtain⟨I,h4,h5⟩:=ZdN l.b vs (l.o+k) w cur e fz R
  exact⟨I,e,fz,h4,by omega,fun hm j J=>by rw[World.frozen?_setCells];exact h3 hm j (by omega)⟩
 own:=C.own
 frz:=fun h=>by cases h
theorem Zlb {cs:List PV} {vs:List Value} (j:VL φ w S cs vs) (C: ∀c∈cs,Zcr c=true): ∀v∈vs,v.oneCell'=true:=by
 induction cs generalizing vs with
 |nil=>simp only[VL]at j;subst j;simp
 |cons c cs I=>
  simp only[VL]at j
  obtain⟨v,r,rfl,J,R⟩:=j
  intro x hx
  rcases Xav.1 hx with rfl|hx
  ·exact ZoJ (C c Xah) J
  ·exact I R (fun y U=>C y (Xai _ U)) x hx
theorem Zl2 {α:Type} (A L:List α) (k:Nat) (X:List α):splice (A++L) (A.length+k) X=A++splice L k X:=by
 unfold splice
 rw[List.take_length_add_append,Xbt,List.drop_length_add_append,Xbn]
theorem Zoh {α:Type} (C D:List α) (r:Nat) (X:List α) (h:r+X.length≤C.length):splice (C++D) r X=splice C r X++D:=by
 unfold splice
 rw[List.take_append_of_le_length (by omega),List.drop_append_of_le_length (by omega)]
 simp
theorem ZfB {z:Nat} {r:Nat} {X:List PV}: ∀ (es:List (List PV)) (i:Nat) (c:List PV),(∀x∈es,x.length=z)→es[i]? =some c→r+X.length≤c.length→(es.set i (splice c r X)).flatten=splice es.flatten (i*z+r) X
 | [],i,c,_,h,_=>by simp at h
 |e::es,0,c,j,h,C=>by
  simp at h;subst h
  simp only[List.set_cons_zero,XbK,Nat.zero_mul,Xaq]
  rw[Zoh _ _ _ _ C]
 |e::es,i+1,c,j,h,C=>by
  have he:e.length=z:=j e Xah
  simp only[List.set_cons_succ,XbK]
  rw[ZfB es i c (fun x I=>j x (Xai _ I)) (by simpa using h) C]
  rw[show(i+1)*z+r=e.length+(i*z+r)from by rw[Xa4,he];omega,Zl2]
theorem ZhB {t:TypeId} {p v:PV} {H':List Mem} {ad x:Value} (hI:Inv φ H w S B) (C:ZcL P H t p v=some H') (hp:VRel φ w S p ad) (hx:VRel φ w S v x) (hn: ∀vs,v≠ .tup vs):
 ∃w',(Instr.storeAt t ad x).run P w= .ok () w'∧Inv φ H' w' S B∧Evo H.length B φ S w φ S w':=by
 unfold ZcL at C
 split at C
 ·rename_i id i r
  split at C
  ·rename_i es z hm
   obtain⟨c,hc,C⟩:=Zak C
   obtain⟨n,ab,C⟩:=Zak C
   obtain⟨⟨hlen,hle⟩,C⟩:=Zar C
   cases C
   simp only[VRel]at hp
   obtain⟨l,J,rfl⟩:=hp
   have I:=hI.row id l es z true J hm
   obtain⟨hv,ho⟩:=ZfI hx hn
   have ae:=VL.length hv
   have hi:i<es.length:=(Xae.1 hc).1
   have af:c.length=z:=I.wid c (XaI hc)
   have al:=ZaU es I.wid
   have an:i*z+z≤es.length*z:=by rw[←Nat.succ_mul];exact Xa8 _ hi
   have ak:=I.top
   have U:r+(cellsOf v).length≤c.length:=by omega
   have ag:(es.set i (splice c r (cellsOf v))).flatten=splice es.flatten (i*z+r) (cellsOf v):=ZfB es i c I.wid hc U
   refine⟨w.setCells l.b (l.o+(i*z+r)) x.cells.toList, ?_, ?_⟩
   ·have ah:=run_storeCells_cells (P:=P) l.b (l.o+(i*z+r)) x.cells.toList 0 w
     (fun j R=>by rw[show l.o+(i*z+r)+0+j=l.o+(i*z+r+j)from by omega];exact(Zd4 I _ (by omega)).1)
     (fun j R=>by rw[show l.o+(i*z+r)+0+j=l.o+(i*z+r+j)from by omega];exact(Zd4 I _ (by omega)).2) (Zlb hv ho)
    have ai:x.cells.size=n:=by simpa[hlen]using ae
    simp only[Instr.storeAt,Instr.sureAddr,Sem.run_bind,Sem.run_pure,Result.andThen_ok,storeVar,ZaH ab,ai,ne_eq,not_true_eq_false,if_false]
    rw[I.zs,Xbt]
    exact ah
   ·refine hI.patch (id:=id) (l:=l) (es':=es.set i (splice c r (cellsOf v))) (z:=z) J (fun _ _=>rfl) (.inr J) (by simp[(hI.live id l J).2.2]) ?_ (by simp) (Zb5 _ _ _ _) (Zc3 _ _ _ _) (fun b hb=>ZbA _ _ _ _ _ hb)
     (I.own rfl) (hI.live id l J).1 (hI.live id l J).2.1 ?_ (I.set (fun _ _ h=>h) ag ?_ (by simp) hv ho ?_)
    ·intro j l' R _;exact .inl (by rw[XaD (fun e=>R e.symm)])
    ·intro j lj m R aj aa ha
     rw[XaD (fun e=>R e.symm)]at aa
     exact hI.apart j id lj l m _ R aj J aa hm ha rfl
    ·intro y hy
     rcases Xbk hy with hy|rfl
     ·exact I.wid y hy
     ·rw[Zgo _ _ _ (by omega)];exact af
    ·omega
  ·cases C
 ·cases C
end
end
end Go.Am
